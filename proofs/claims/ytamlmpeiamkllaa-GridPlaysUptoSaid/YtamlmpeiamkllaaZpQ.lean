/- Layer 17: Put. Printed by genQ.py. -/
import Derived.Test.YtamlmpeiamkllaaZpA
import Derived.Test.YtamlmpeiamkllaaProg
import Derived.Test.YtamlmpeiamkllaaZrT
set_option linter.unusedSimpArgs false
set_option linter.unusedVariables false
set_option maxRecDepth 100000
namespace Go.Zt
open Go Go.Sim Go.Proofs Go.RowKit

/-- A block stands in twenty-three cells. -/
def BkAt (M : Mem) (blk off : Nat) (b : Bk) : Prop := ∀ o, o < 23 → M.cell blk (off + o) = b.cs[o]?
theorem on23 {M : Mem} {blk off : Nat} {b : Bk} {P : Int → Int → Int → Int → Bool → Bool → Int → Int → Int → Int → Int → Int → Int → Bool → Int → Int → Int → Int → Int → Int → Int → Int → Bool → Prop} (hc : BkAt M blk off b) (k : P b.x b.y b.w b.h b.sk b.it b.q6 b.q7 b.q8 b.q9 b.q10 b.q11 b.q12 b.cp b.r0 b.r1 b.q16 b.v0 b.v1 b.v2 b.v3 b.q21 b.ob) : onS (M.intAt .i64 blk off) fun y0 => onS (M.intAt .i64 blk (off + 1)) fun y1 => onS (M.intAt .i64 blk (off + 2)) fun y2 => onS (M.intAt .i64 blk (off + 3)) fun y3 => onS (M.boolAt blk (off + 4)) fun y4 => onS (M.boolAt blk (off + 5)) fun y5 => onS (M.intAt .i64 blk (off + 6)) fun y6 => onS (M.intAt .i64 blk (off + 7)) fun y7 => onS (M.intAt .i64 blk (off + 8)) fun y8 => onS (M.intAt .i64 blk (off + 9)) fun y9 => onS (M.intAt .i64 blk (off + 10)) fun y10 => onS (M.intAt .i64 blk (off + 11)) fun y11 => onS (M.intAt .i64 blk (off + 12)) fun y12 => onS (M.boolAt blk (off + 13)) fun y13 => onS (M.intAt .i64 blk (off + 14)) fun y14 => onS (M.intAt .i64 blk (off + 15)) fun y15 => onS (M.intAt .i64 blk (off + 16)) fun y16 => onS (M.intAt .i64 blk (off + 17)) fun y17 => onS (M.intAt .i64 blk (off + 18)) fun y18 => onS (M.intAt .i64 blk (off + 19)) fun y19 => onS (M.intAt .i64 blk (off + 20)) fun y20 => onS (M.intAt .i64 blk (off + 21)) fun y21 => onS (M.boolAt blk (off + 22)) fun y22 => P y0 y1 y2 y3 y4 y5 y6 y7 y8 y9 y10 y11 y12 y13 y14 y15 y16 y17 y18 y19 y20 y21 y22 :=
  on (cell_int (hc 0 (by decide))) (on (cell_int (hc 1 (by decide))) (on (cell_int (hc 2 (by decide))) (on (cell_int (hc 3 (by decide))) (on (cell_bool (hc 4 (by decide))) (on (cell_bool (hc 5 (by decide))) (on (cell_int (hc 6 (by decide))) (on (cell_int (hc 7 (by decide))) (on (cell_int (hc 8 (by decide))) (on (cell_int (hc 9 (by decide))) (on (cell_int (hc 10 (by decide))) (on (cell_int (hc 11 (by decide))) (on (cell_int (hc 12 (by decide))) (on (cell_bool (hc 13 (by decide))) (on (cell_int (hc 14 (by decide))) (on (cell_int (hc 15 (by decide))) (on (cell_int (hc 16 (by decide))) (on (cell_int (hc 17 (by decide))) (on (cell_int (hc 18 (by decide))) (on (cell_int (hc 19 (by decide))) (on (cell_int (hc 20 (by decide))) (on (cell_int (hc 21 (by decide))) (on (cell_bool (hc 22 (by decide))) (k)))))))))))))))))))))))
theorem bkAt {M : Mem} {j : Nat} {b : Bk} {t : TypeId} (a : M.nb[j]? = some (.cells b.cs t)) : BkAt M (2 * j) 0 b := fun o ho => by
  rw [cell_of a, Nat.zero_add]
/-! ### Plain -/
def Bk.ovl (a b : Bk) : Bool := decide (a.x < b.x + b.w ∧ b.x < a.x + a.w ∧ a.y < b.y + b.h ∧ b.y < a.y + a.h)
def putS (t : Tl) (L : List Bk) (b : Bk) : Nat × List Bk := if b.ok t && L.all fun a => !a.ovl b then (0, L ++ [b]) else (2, L)
abbrev Pls (l : List (Int × Int)) : List Value := l.flatMap fun p => [.int .i64 p.1, .int .i64 p.2]
theorem Pls_len (l : List (Int × Int)) : (Pls l).length = l.length * 2 := by
  induction l with
  | nil => rfl
  | cons p l ih => simp only [Pls, List.flatMap_cons, List.length_append, List.length_cons, List.length_nil] at ih ⊢; omega
theorem Pls.at {M : Mem} {A : Option Addr} {l : List (Int × Int)} (hR : Row M A (Pls l)) {n i : Nat} {z : Int} (hz : z = (i : Int)) (hn : i < n) (hi : i < l.length) :
    ∃ a, idxA A n 2 z = some a ∧ M.intAt .i64 a.block a.off = some l[i].1 ∧ M.intAt .i64 a.block (a.off + 1) = some l[i].2 := by
  obtain ⟨a, h1, h2⟩ := Row.flat (f := fun p : Int × Int => [Value.int .i64 p.1, .int .i64 p.2]) (s := 2) (fun _ => rfl) hR (by decide) hz hn hi
  exact ⟨a, h1, cell_int (h2 0 (by decide)), cell_int (h2 1 (by decide))⟩
def rowE (b : Bk) (yi n : Nat) : List (Int × Int) := (List.range n).map fun (xi : Nat) => (b.x / 8 + ((xi : Nat) : Int), b.y / 8 + ((yi : Nat) : Int))
def preE (b : Bk) (yi xi : Nat) : List (Int × Int) := ((List.range yi).flatMap fun y => rowE b y (b.w.toNat / 8)) ++ rowE b yi xi
section
variable {t : Tl} {L : List Bk} {b : Bk} {x y : Int}
theorem preE_x (yi xi : Nat) : preE b yi (xi + 1) = preE b yi xi ++ [(b.x / 8 + (xi : Int), b.y / 8 + (yi : Int))] := by
  unfold preE rowE
  rw [range_map_succ, List.append_assoc]
theorem preE_y (yi : Nat) : preE b yi (b.w.toNat / 8) = preE b (yi + 1) 0 := by
  unfold preE
  rw [range_flat_succ]
  simp [rowE]
theorem preE_end : preE b (b.h.toNat / 8) 0 = ents b := by
  unfold preE ents rowE
  simp
theorem entL_app (b : Bk) : ∀ (L : List Bk) (n : Nat), entL n (L ++ [b]) = entL n L ++ (ents b).map fun p => (p, ((n + L.length : Nat) : Int))
  | [], n => by simp [entL]
  | a :: L, n => by
    simp only [List.cons_append, entL]
    rw [entL_app b L (n + 1), List.append_assoc]
    congr 4
    simp only [List.length_cons]
    funext p
    congr 2
    omega
theorem find_none (hL : ∀ b ∈ L, b.ok t = true) : findE (x / 8, y / 8) (entL 0 L) 0 = none ↔ atS x y L = none := by
  have h := findE_entL (t := t) (x := x) (y := y) L 0 0 hL
  constructor
  · intro hn
    rw [hn] at h
    cases hi : idxS x y L with
    | none => exact idx_none hi
    | some m => rw [hi] at h; cases h
  · intro hn
    cases hf : findE (x / 8, y / 8) (entL 0 L) 0 with
    | none => rfl
    | some r =>
      rw [hf] at h
      cases hi : idxS x y L with
      | none => rw [hi] at h; cases h
      | some m => obtain ⟨h1, h2⟩ := idx_some hi; rw [hn] at h2; cases h2
theorem mem_cell (hb : b.ok t = true) {p : Int × Int} (hp : p ∈ ents b) : ∃ X Y : Int, p = (X / 8, Y / 8) ∧ b.cov X Y = true := by
  obtain ⟨u, v⟩ := p
  obtain ⟨yi, xi, h1, h2, rfl, rfl⟩ := mem_ents.1 hp
  obtain ⟨g1, g2, g3, _⟩ := Bk.ok_iff.1 hb
  refine ⟨b.x + 8 * (xi : Int), b.y + 8 * (yi : Int), by simp only [Prod.mk.injEq]; omega, ?_⟩
  unfold Bk.cov
  exact decide_eq_true (by omega)
theorem ovl_cells (hL : ∀ b ∈ L, b.ok t = true) (hb : b.ok t = true) : (L.all fun a => !a.ovl b) = true ↔ ∀ p ∈ ents b, findE p (entL 0 L) 0 = none := by
  rw [List.all_eq_true]
  constructor
  · intro h p hp
    obtain ⟨X, Y, rfl, hc⟩ := mem_cell hb hp
    rw [find_none hL]
    cases ha : atS X Y L with
    | none => rfl
    | some a =>
      exfalso
      obtain ⟨h1, h2⟩ := atS_mem ha
      have := h a h1
      unfold Bk.cov at hc h2
      have hc := of_decide_eq_true hc
      have h2 := of_decide_eq_true h2
      unfold Bk.ovl at this
      rw [decide_eq_true (by omega)] at this
      cases this
  · intro h a ha
    cases ho : a.ovl b with
    | false => rfl
    | true =>
      exfalso
      unfold Bk.ovl at ho
      have ho := of_decide_eq_true ho
      have g1 := Bk.ok_iff.1 (hL a ha)
      have g2 := Bk.ok_iff.1 hb
      have cb : b.cov (max a.x b.x) (max a.y b.y) = true := by unfold Bk.cov; exact decide_eq_true (by omega)
      have ca : a.cov (max a.x b.x) (max a.y b.y) = true := by unfold Bk.cov; exact decide_eq_true (by omega)
      have := h _ ((cov_ents hb).2 cb)
      rw [find_none hL] at this
      have key : ∀ {L : List Bk}, a ∈ L → atS (max a.x b.x) (max a.y b.y) L = none → False := by
        intro L
        induction L with
        | nil => intro h _; cases h
        | cons c L ih =>
          intro h hn
          unfold atS at hn
          split at hn
          · cases hn
          · rename_i hc
            rcases List.mem_cons.1 h with rfl | h
            · exact hc ca
            · exact ih h hn
      exact key ha this
theorem nodup_rowE (yi n : Nat) : (rowE b yi n).Nodup := by
  unfold rowE List.Nodup
  rw [List.pairwise_map]
  refine (List.pairwise_lt_range (n := n)).imp fun {i j} h e => ?_
  simp only [Prod.mk.injEq] at e
  omega
theorem nodup_ents : (ents b).Nodup := by
  have e : ents b = (List.range (b.h.toNat / 8)).flatMap fun y => rowE b y (b.w.toNat / 8) := rfl
  rw [e]
  unfold List.Nodup
  rw [List.pairwise_flatMap]
  refine ⟨fun y _ => nodup_rowE y _, (List.pairwise_lt_range (n := b.h.toNat / 8)).imp fun {i j} h p hp q hq e => ?_⟩
  unfold rowE at hp hq
  obtain ⟨u, _, rfl⟩ := List.mem_map.1 hp
  obtain ⟨v, _, rfl⟩ := List.mem_map.1 hq
  simp only [Prod.mk.injEq] at e
  omega
theorem len_ents (hb : b.ok t = true) : (ents b).length ≤ 64 := by
  obtain ⟨_, h2, h3, _⟩ := Bk.ok_iff.1 hb
  unfold ents
  rw [List.length_flatMap]
  simp only [List.length_map, List.length_range, List.map_const', List.sum_replicate_nat]
  rcases h2 with h | h | h | h <;> rcases h3 with g | g | g | g <;> rw [h, g] <;> decide
theorem findE_none_app {k : Int × Int} {A B : Ents} {i : Nat} (h : findE k A i = none) (h2 : ∀ i, findE k B i = none) : findE k (A ++ B) i = none := by
  rw [findE_app, h, h2]; rfl
theorem findE_map_none {k : Int × Int} {n : Int} {l : List (Int × Int)} (h : k ∉ l) (i : Nat) : findE k (l.map fun p => (p, n)) i = none := by
  have := findE_map (k := k) (n := n) l i
  rw [if_neg h] at this
  simpa using this
theorem findE_shift {k : Int × Int} : ∀ {A : Ents} {i i' : Nat}, findE k A i = none → findE k A i' = none
  | [], _, _, _ => rfl
  | e :: A, i, i', h => by
    unfold findE at h ⊢
    split at h
    · cases h
    · rename_i hne
      rw [if_neg hne]
      exact findE_shift h
end
theorem elem69 : ElemS Try.prog 69 72 2 16 (.agg #[.int .i64 0, .int .i64 0]) := ⟨by kernel_rfl, by kernel_rfl, by kernel_rfl, by kernel_rfl, by decide⟩
/-- What Put tells. -/
def PutP (V : Nat → Prop) (M : Mem) (j jm : Nat) (t : Tl) (L : List Bk) (b : Bk) : Value → Mem → Prop := fun v N =>
  v = .int .i64 ((putS t L b).1 : Nat) ∧ ∃ V', (∀ i, V' i → V i ∨ (M.nb.size ≤ i ∧ i < N.nb.size)) ∧ Chg (fun i => V i ∨ i = j ∨ i = jm) M N ∧ Gr V' N j jm t (putS t L b).2
section
variable {V : Nat → Prop} {M M1 N : Mem} {j jm jb : Nat} {t : Tl} {L : List Bk} {b : Bk}
/-- The block is noted. -/
theorem e9_8 (hf : M.floor ≤ M.nb.size) (fl : ∀ i, V i ∨ i = j ∨ i = jm → M.floor ≤ i ∧ i < M.nb.size) (hb : b.ok t = true) (hL : L.length < 1000) (G0 : Gr V M j jm t L) (hall : (L.all fun a => !a.ovl b) = true) {Ax : Option Addr} {cx : Nat} :
    ∀ (q i : Nat) {M1 : Mem}, i + q = (ents b).length → Chg (· = jm) M M1 → M1.nb[jb]? = some (.cells b.cs 27) → M.nb.size ≤ jb → Row M1 Ax (Pls (ents b)) → (∀ a, Ax = some a → M.nb.size ≤ a.block / 2) →
      (∃ es k, M1.nb[jm]? = some (.map es k) ∧ EntR es.toList (entL 0 L ++ ((ents b).take i).map fun p => (p, (L.length : Int)))) →
      A9_8 (some ⟨2 * j, 0, none⟩) (some ⟨2 * jb, 0, none⟩) Ax (ents b).length cx ((ents b).length : Int) (i : Int) M1 (PutP V M j jm t L b)
  | 0, i, M1, hi, C, ab, hjb, R, hA, ⟨es, k, m1, m2⟩ => by
    obtain ⟨A, c, es0, k0, g1, g2, g3, g4, g5⟩ := G0.ex
    have g1' := at_chg g1 C G0.out.2.2
    have g2' : Own V M1 27 A (c * 23) (Bks L) := g2.chg C fun i hi hv h => G0.out.2.1 (h ▸ hv)
    have z1 := C.size
    refine w9_8 (cF (decide_eq_false (by omega)) (ad rfl (on (sl_of (i := 0 + 5) g1' rfl) (ad rfl (on23 (bkAt ab) ?_)))))
    have X := Row.new M1 27 b.cs.toList
    have K2 : Keep M1 (M1.new (.cells b.cs.toList.toArray 27)) := .new _ _
    have z2 := Mem.new_size M1 (.cells b.cs.toList.toArray 27)
    have lb : b.cs.toList.length = 1 * 23 := rfl
    have fM1 : M1.floor = M.floor := C.floor
    obtain ⟨A', c', M2, p, C2, O2, h2⟩ := append_own elem43 (S := fun i => V i ∨ M1.nb.size ≤ i) ((g2'.chg K2 fun _ _ _ h => h).mono fun i _ h => .inl h) (n := L.length) (by rw [Bks_len]; omega) X (k := 1) (cx := 1) lb rfl (fun i hi => by
      rw [K2.floor, fM1]
      rcases hi with h | h
      · exact (fl i (.inl h)).1
      · omega) (.inr (by rw [z2]; omega)) (by omega)
    refine me p (ty rfl (ad rfl ?_))
    have C12 : Chg (fun i => V i ∨ M1.nb.size ≤ i) M1 M2 := (K2.mono fun _ _ h => h.elim).trans C2
    have lj := lt_of_at g1'
    have lm := lt_of_at m1
    have g1'' := at_chg g1' C12 fun h => h.elim G0.out.1 fun h => by omega
    have m1'' := at_chg m1 C12 fun h => h.elim G0.out.2.1 fun h => by omega
    have z12 := C12.size
    obtain ⟨M3, p3, C3, z3, a3⟩ := put1 5 (.slice A' (L.length + 1) c') g1'' (by rw [C12.floor, fM1]; exact (fl j (.inr (.inl rfl))).1) (show 5 < 7 by decide) rfl
    refine pt p3 ?_
    have hS : putS t L b = (0, L ++ [b]) := by unfold putS; rw [hb, hall]; rfl
    have CC : Chg (fun i => V i ∨ i = j ∨ i = jm) M M3 := by
      refine ((C.mono fun i _ h => .inr (.inr h)).trans ⟨C12.base, C12.floor, C12.size, fun i hi hn => C12.same i hi fun h => ?_⟩).trans (C3.mono fun i _ h => .inr (.inl h))
      rcases h with h | h
      · exact hn (.inl h)
      · omega
    refine ⟨by rw [hS]; rfl, fun i => V i ∨ (M1.nb.size ≤ i ∧ i < M2.nb.size), fun i hi => hi.imp id fun q => by omega, CC, ?_⟩
    rw [hS]
    have ll : (L ++ [b]).length = L.length + 1 := by simp
    refine ⟨G0.may, ⟨fun h => h.elim G0.out.1 fun q => by omega, fun h => h.elim G0.out.2.1 fun q => by omega, G0.out.2.2⟩, fun a ha => ?_, by rw [ll]; omega, A', c', es, k, ?_, ?_, by rw [ll]; exact h2, at_chg m1'' C3 fun h => G0.out.2.2 h.symm, ?_⟩
    · rcases List.mem_append.1 ha with h | h
      · exact G0.ok a h
      · rw [List.mem_singleton.1 h]; exact hb
    · rw [ll]; exact a3
    · have e : Bks (L ++ [b]) = Bks L ++ b.cs.toList := by simp [Bks, List.flatMap_append]
      rw [e]
      exact (O2.mono fun i hi h => h.imp id fun q => ⟨q, hi⟩).chg C3 fun i _ hv h => by
        subst h
        rcases hv with hv | hv
        · exact G0.out.1 hv
        · omega
    · rw [entL_app]
      rw [List.take_of_length_le (by omega)] at m2
      simpa using m2
  | q + 1, i, M1, hi, C, ab, hjb, R, hA, ⟨es, k, m1, m2⟩ => by
    obtain ⟨A, c, es0, k0, g1, g2, g3, g4, g5⟩ := G0.ex
    have hlt : i < (ents b).length := by omega
    obtain ⟨a, e1, e2, e3⟩ := Pls.at R (n := (ents b).length) (i := i) (z := (i : Int)) rfl hlt hlt
    have z1 := C.size
    have fM1 : M1.floor = M.floor := C.floor
    refine w9_8 (cT (decide_eq_true (by omega)) (ix e1 (on e2 (on e3 (stN (cs := #[.int .i64 (ents b)[i].1, .int .i64 (ents b)[i].2]) (by rw [fM1]; omega) rfl rfl rfl fun M2 K2 z2 b2 => ad rfl ?_)))))
    have g1' := at_keep (at_chg g1 C G0.out.2.2) K2
    have m1' := at_keep m1 K2
    refine on (x := .map (some (2 * jm))) (by rw [cell_of g1']; rfl) (on (int_of (i := 0) b2 rfl) (on (int_of (i := 0 + 1) b2 rfl) (ad rfl (on (sl_of (i := 0 + 5) g1' rfl) ?_))))
    have hmem : (ents b)[i] ∈ ents b := List.getElem_mem hlt
    have hno := (ovl_cells G0.ok hb).1 hall _ hmem
    have hnew : findE ((ents b)[i].1, (ents b)[i].2) (entL 0 L ++ ((ents b).take i).map fun p => (p, (L.length : Int))) 0 = none := by
      refine findE_none_app hno fun i' => findE_map_none (fun hm => ?_) i'
      obtain ⟨u, hu, he⟩ := List.getElem_of_mem hm
      have hu' : u < i := by simpa using Nat.lt_of_lt_of_le hu (by simp; omega)
      rw [List.getElem_take] at he
      have hd := (List.nodup_iff_pairwise_ne.1 (nodup_ents (b := b)))
      exact (List.pairwise_iff_getElem.1 hd u i (by omega) hlt hu') he
    obtain ⟨es', hp, hE⟩ := mapPut_pl und61 key72 (x := (L.length : Int)) m1' (by rw [K2.floor, fM1]; exact (fl jm (.inr (.inr rfl))).1) m2 hnew
    refine me hp ?_
    have lm := lt_of_at m1'
    have C3 := upd_chg (M := M2) (S := (· = jm)) (b := .map es' (k + 1)) (j := jm) rfl
    have u3 := upd_at (M := M2) (b := .map es' (k + 1)) lm
    show A9_8 _ _ _ _ _ _ _ (M2.upd jm (.map es' (k + 1))) _
    generalize M2.upd jm (.map es' (k + 1)) = M3 at C3 u3 ⊢
    rw [i64w (by have := len_ents hb; omega)]
    have hjm := (fl jm (.inr (.inr rfl))).2
    exact e9_8 hf fl hb hL G0 hall q (i + 1) (by omega) ((C.trans (K2.mono fun _ _ h => h.elim)).trans C3) (at_chg (at_keep ab K2) C3 (by omega)) hjb ((R.keep K2).chg C3 fun a ha => .inr (by have := hA a ha; omega)) hA ⟨es', k + 1, u3, by
      have e : (ents b).take (i + 1) = (ents b).take i ++ [(ents b)[i]] := by rw [List.take_succ_eq_append_getElem hlt]
      rw [e, List.map_append, ← List.append_assoc]
      exact hE⟩
end
end Go.Zt

/- The functions' walks: for each function and each loop a rule of what it comes to. Printed by zw2.py. -/
set_option linter.unusedVariables false
set_option maxRecDepth 100000
namespace Go.Zt
open Go Go.Sim Go.Proofs

def tyZpE0 : List Sc := [.int .i64, .int .i64, .int .i64, .int .i64, .bool, .bool, .int .i64, .int .i64, .int .i64, .int .i64, .int .i64, .int .i64, .int .i64, .bool, .int .i64, .int .i64, .int .i64, .int .i64, .int .i64, .int .i64, .int .i64, .int .i64, .bool]
/-! ### (*zoetrope/grid.Grid).Vecs: function 10 -/
def K10 : List (List It × List Nat) := [([.rg [1,1,0,0,1,1,0] 11, .code [1,1,0,0,1,1,1], .blk 0, .code [1,1,1]], [0, 2, 4, 6, 9, 32]), ([.rg [1,1,0,0,1,1,0] 20, .code [1,1,0,0,1,1,1], .blk 0, .code [1,1,1]], [0, 2, 4, 6, 9, 41]), ([.rg [1,1,0,0,1,1,0] 25, .code [1,1,0,0,1,1,1], .blk 0, .code [1,1,1]], [0, 2, 4, 6, 9, 46]), ([.rg [1,1,0,0,1,1,0] 30, .code [1,1,0,0,1,1,1], .blk 0, .code [1,1,1]], [0, 2, 4, 6, 9, 51]), ([.rg [1,1,0,0,1,1,0] 36, .code [1,1,0,0,1,1,1], .blk 0, .code [1,1,1]], [0, 2, 4, 6, 9, 57]), ([.rg [1,1,0,0,1,1,0] 40, .code [1,1,0,0,1,1,1], .blk 0, .code [1,1,1]], [0, 2, 4, 6, 9, 61]), ([.code [1,1,0,0,1,1,1], .blk 0, .code [1,1,1]], [0, 2, 4, 6, 9, 21]), ([.code [1,1,1,1,0,1,0,0], .lp [1,1,1,1,0,1,0,0], .blk 1, .code [1,1,1,1,1]], [0, 2, 6, 9, 10, 94, 95]), ([.code [1,1,1,1,0,1,0,0,1,1,0,0,1,1,1,1], .blk 2, .code [1,1,1,1,0,1,0,0,1,1,1], .lp [1,1,1,1,0,1,0,0], .blk 1, .code [1,1,1,1,1]], [0, 2, 6, 9, 10, 15, 94, 95, 124]), ([.code [1,1,1,1,0,1,0,0,1,1,1], .lp [1,1,1,1,0,1,0,0], .blk 1, .code [1,1,1,1,1]], [0, 2, 6, 9, 10, 94, 95])]
def Z10 : List (List Nat × List Nat) := [([1,1,0,0,1,1,0], [11, 20, 25, 30, 36, 40, 44])]
theorem b10 : Try.prog.funcs[10]? = some Try.f10 ∧ (Orc.tab Try.prog).lookup 10 = none ∧ Try.f10.body = some (codeOf Try.f10) := ⟨by kernel_rfl, by kernel_rfl, by kernel_rfl⟩
def A10_1 (x0 : Option Addr) (x2 : Int) (x4 x6 x9 : Option Addr) (x32 : Bool) (M : Mem) (Q : Value → Mem → Prop) : Prop := LvP Try.prog Try.f10 [(0, .pointer x0), (2, .int .i64 x2), (4, .pointer x4), (6, .pointer x6), (9, .pointer x9), (32, .bool x32)] [.rg [1,1,0,0,1,1,0] 11, .code [1,1,0,0,1,1,1], .blk 0, .code [1,1,1]] M Q
def A10_2 (x0 : Option Addr) (x2 : Int) (x4 x6 x9 : Option Addr) (x41 : Bool) (M : Mem) (Q : Value → Mem → Prop) : Prop := LvP Try.prog Try.f10 [(0, .pointer x0), (2, .int .i64 x2), (4, .pointer x4), (6, .pointer x6), (9, .pointer x9), (41, .bool x41)] [.rg [1,1,0,0,1,1,0] 20, .code [1,1,0,0,1,1,1], .blk 0, .code [1,1,1]] M Q
def A10_3 (x0 : Option Addr) (x2 : Int) (x4 x6 x9 : Option Addr) (x46 : Bool) (M : Mem) (Q : Value → Mem → Prop) : Prop := LvP Try.prog Try.f10 [(0, .pointer x0), (2, .int .i64 x2), (4, .pointer x4), (6, .pointer x6), (9, .pointer x9), (46, .bool x46)] [.rg [1,1,0,0,1,1,0] 25, .code [1,1,0,0,1,1,1], .blk 0, .code [1,1,1]] M Q
def A10_4 (x0 : Option Addr) (x2 : Int) (x4 x6 x9 : Option Addr) (x51 : Bool) (M : Mem) (Q : Value → Mem → Prop) : Prop := LvP Try.prog Try.f10 [(0, .pointer x0), (2, .int .i64 x2), (4, .pointer x4), (6, .pointer x6), (9, .pointer x9), (51, .bool x51)] [.rg [1,1,0,0,1,1,0] 30, .code [1,1,0,0,1,1,1], .blk 0, .code [1,1,1]] M Q
def A10_5 (x0 : Option Addr) (x2 : Int) (x4 x6 x9 : Option Addr) (x57 : Bool) (M : Mem) (Q : Value → Mem → Prop) : Prop := LvP Try.prog Try.f10 [(0, .pointer x0), (2, .int .i64 x2), (4, .pointer x4), (6, .pointer x6), (9, .pointer x9), (57, .bool x57)] [.rg [1,1,0,0,1,1,0] 36, .code [1,1,0,0,1,1,1], .blk 0, .code [1,1,1]] M Q
def A10_6 (x0 : Option Addr) (x2 : Int) (x4 x6 x9 : Option Addr) (x61 : Bool) (M : Mem) (Q : Value → Mem → Prop) : Prop := LvP Try.prog Try.f10 [(0, .pointer x0), (2, .int .i64 x2), (4, .pointer x4), (6, .pointer x6), (9, .pointer x9), (61, .bool x61)] [.rg [1,1,0,0,1,1,0] 40, .code [1,1,0,0,1,1,1], .blk 0, .code [1,1,1]] M Q
def A10_7 (x0 : Option Addr) (x2 : Int) (x4 x6 x9 : Option Addr) (x21 : Bool) (M : Mem) (Q : Value → Mem → Prop) : Prop := LvP Try.prog Try.f10 [(0, .pointer x0), (2, .int .i64 x2), (4, .pointer x4), (6, .pointer x6), (9, .pointer x9), (21, .bool x21)] [.code [1,1,0,0,1,1,1], .blk 0, .code [1,1,1]] M Q
def A10_8 (x0 : Option Addr) (x2 : Int) (x6 x9 : Option Addr) (x10 x94_0 x94_1 x94_2 x94_3 x94_4 x94_5 x94_6 x94_7 x95 : Int) (M : Mem) (Q : Value → Mem → Prop) : Prop := LvP Try.prog Try.f10 [(0, .pointer x0), (2, .int .i64 x2), (6, .pointer x6), (9, .pointer x9), (10, .int .i64 x10), (94, .agg #[.int .i64 x94_0, .int .i64 x94_1, .int .i64 x94_2, .int .i64 x94_3, .int .i64 x94_4, .int .i64 x94_5, .int .i64 x94_6, .int .i64 x94_7]), (95, .int .i64 x95)] [.code [1,1,1,1,0,1,0,0], .lp [1,1,1,1,0,1,0,0], .blk 1, .code [1,1,1,1,1]] M Q
def A10_9 (x0 : Option Addr) (x2 : Int) (x6 x9 : Option Addr) (x10 : Int) (x15 : Option Addr) (x94_0 x94_1 x94_2 x94_3 x94_4 x94_5 x94_6 x94_7 x95 : Int) (x124 : Bool) (M : Mem) (Q : Value → Mem → Prop) : Prop := LvP Try.prog Try.f10 [(0, .pointer x0), (2, .int .i64 x2), (6, .pointer x6), (9, .pointer x9), (10, .int .i64 x10), (15, .pointer x15), (94, .agg #[.int .i64 x94_0, .int .i64 x94_1, .int .i64 x94_2, .int .i64 x94_3, .int .i64 x94_4, .int .i64 x94_5, .int .i64 x94_6, .int .i64 x94_7]), (95, .int .i64 x95), (124, .bool x124)] [.code [1,1,1,1,0,1,0,0,1,1,0,0,1,1,1,1], .blk 2, .code [1,1,1,1,0,1,0,0,1,1,1], .lp [1,1,1,1,0,1,0,0], .blk 1, .code [1,1,1,1,1]] M Q
def A10_10 (x0 : Option Addr) (x2 : Int) (x6 x9 : Option Addr) (x10 x94_0 x94_1 x94_2 x94_3 x94_4 x94_5 x94_6 x94_7 x95 : Int) (M : Mem) (Q : Value → Mem → Prop) : Prop := LvP Try.prog Try.f10 [(0, .pointer x0), (2, .int .i64 x2), (6, .pointer x6), (9, .pointer x9), (10, .int .i64 x10), (94, .agg #[.int .i64 x94_0, .int .i64 x94_1, .int .i64 x94_2, .int .i64 x94_3, .int .i64 x94_4, .int .i64 x94_5, .int .i64 x94_6, .int .i64 x94_7]), (95, .int .i64 x95)] [.code [1,1,1,1,0,1,0,0,1,1,1], .lp [1,1,1,1,0,1,0,0], .blk 1, .code [1,1,1,1,1]] M Q
theorem w10_0 {x0 : Option Addr} {x1_0 x1_1 x1_2 x1_3 x2 : Int} {M : Mem} {Q : Value → Mem → Prop} (H :
    Cn Try.prog 24 #[.pointer x0] (((M.new (.cells #[.int .i64 x1_0, .int .i64 x1_1, .int .i64 x1_2, .int .i64 x1_3] 35)).new (.cells #[.int .i64 0, .int .i64 0, .int .i64 0, .int .i64 0] 25)).new (.cells #[.int .i64 0, .int .i64 0, .int .i64 0, .int .i64 0] 25)) fun v1' N1' =>
     tyS (asB v1') fun b2' =>
     cnd b2' (
      onS (N1'.intAt .i64 (2 * ((M.new (.cells #[.int .i64 x1_0, .int .i64 x1_1, .int .i64 x1_2, .int .i64 x1_3] 35)).new (.cells #[.int .i64 0, .int .i64 0, .int .i64 0, .int .i64 0] 25)).nb.size) 0) fun x3' =>
      onS (N1'.intAt .i64 (2 * ((M.new (.cells #[.int .i64 x1_0, .int .i64 x1_1, .int .i64 x1_2, .int .i64 x1_3] 35)).new (.cells #[.int .i64 0, .int .i64 0, .int .i64 0, .int .i64 0] 25)).nb.size) (0 + 1)) fun x4' =>
      onS (N1'.intAt .i64 (2 * ((M.new (.cells #[.int .i64 x1_0, .int .i64 x1_1, .int .i64 x1_2, .int .i64 x1_3] 35)).new (.cells #[.int .i64 0, .int .i64 0, .int .i64 0, .int .i64 0] 25)).nb.size) (0 + 2)) fun x5' =>
      onS (N1'.intAt .i64 (2 * ((M.new (.cells #[.int .i64 x1_0, .int .i64 x1_1, .int .i64 x1_2, .int .i64 x1_3] 35)).new (.cells #[.int .i64 0, .int .i64 0, .int .i64 0, .int .i64 0] 25)).nb.size) (0 + 3)) fun x6' =>
      stP (some 4) #[.int .i64 x3', .int .i64 x4', .int .i64 x5', .int .i64 x6'] N1' (2 * (M.new (.cells #[.int .i64 x1_0, .int .i64 x1_1, .int .i64 x1_2, .int .i64 x1_3] 35)).nb.size) 0 fun M7' =>
      onS (M7'.intAt .i64 (2 * (M.new (.cells #[.int .i64 x1_0, .int .i64 x1_1, .int .i64 x1_2, .int .i64 x1_3] 35)).nb.size) 0) fun x8' =>
      onS (M7'.intAt .i64 (2 * (M.new (.cells #[.int .i64 x1_0, .int .i64 x1_1, .int .i64 x1_2, .int .i64 x1_3] 35)).nb.size) (0 + 1)) fun x9' =>
      onS (M7'.intAt .i64 (2 * (M.new (.cells #[.int .i64 x1_0, .int .i64 x1_1, .int .i64 x1_2, .int .i64 x1_3] 35)).nb.size) (0 + 2)) fun x10' =>
      onS (M7'.intAt .i64 (2 * (M.new (.cells #[.int .i64 x1_0, .int .i64 x1_1, .int .i64 x1_2, .int .i64 x1_3] 35)).nb.size) (0 + 3)) fun x11' =>
      Q (.tuple #[.agg #[.int .i64 (x8'), .int .i64 (x9'), .int .i64 (x10'), .int .i64 (x11')], .int .i64 0, .int .i64 1]) M7') (
      onS (N1'.intAt .i64 (2 * M.nb.size) 0) fun x12' =>
      cnd ((x12'.tmod 8) != 0) (
       A10_1 x0 x2 (some ⟨2 * M.nb.size, 0, none⟩) (some ⟨2 * (M.new (.cells #[.int .i64 x1_0, .int .i64 x1_1, .int .i64 x1_2, .int .i64 x1_3] 35)).nb.size, 0, none⟩) (some ⟨2 * ((M.new (.cells #[.int .i64 x1_0, .int .i64 x1_1, .int .i64 x1_2, .int .i64 x1_3] 35)).new (.cells #[.int .i64 0, .int .i64 0, .int .i64 0, .int .i64 0] 25)).nb.size, 0, none⟩) true N1' Q) (
       onS (N1'.intAt .i64 (2 * M.nb.size) (0 + 1)) fun x13' =>
       A10_1 x0 x2 (some ⟨2 * M.nb.size, 0, none⟩) (some ⟨2 * (M.new (.cells #[.int .i64 x1_0, .int .i64 x1_1, .int .i64 x1_2, .int .i64 x1_3] 35)).nb.size, 0, none⟩) (some ⟨2 * ((M.new (.cells #[.int .i64 x1_0, .int .i64 x1_1, .int .i64 x1_2, .int .i64 x1_3] 35)).new (.cells #[.int .i64 0, .int .i64 0, .int .i64 0, .int .i64 0] 25)).nb.size, 0, none⟩) ((x13'.tmod 8) != 0) N1' Q))) :
    Cn Try.prog 10 #[.pointer x0, .agg #[.int .i64 x1_0, .int .i64 x1_1, .int .i64 x1_2, .int .i64 x1_3], .int .i64 x2] M Q :=
  Cn.mk (cuts := K10) (sp := Z10) 900 b10 rfl rfl H fun G => by kernel_rfl

theorem w10_1 {x0 : Option Addr} {x2 : Int} {x4 x6 x9 : Option Addr} {x32 : Bool} {M : Mem} {Q : Value → Mem → Prop} (H :
    cnd x32 (
     A10_2 x0 x2 x4 x6 x9 true M Q) (
     adS x4 fun a14' =>
     onS (M.intAt .i64 a14'.block a14'.off) fun x15' =>
     adS x4 fun a16' =>
     onS (M.intAt .i64 a16'.block (a16'.off + 1)) fun x17' =>
     Cn Try.prog 26 #[.pointer x0, .int .i64 x15', .int .i64 x17'] M fun v18' N18' =>
      tyS (asB v18') fun b19' =>
      A10_2 x0 x2 x4 x6 x9 (!b19') N18' Q)) :
    A10_1 x0 x2 x4 x6 x9 x32 M Q :=
  LvP.mk (cuts := K10) (sp := Z10) 900 H fun G => by kernel_rfl

theorem w10_2 {x0 : Option Addr} {x2 : Int} {x4 x6 x9 : Option Addr} {x41 : Bool} {M : Mem} {Q : Value → Mem → Prop} (H :
    cnd x41 (
     A10_3 x0 x2 x4 x6 x9 true M Q) (
     adS x4 fun a20' =>
     onS (M.intAt .i64 a20'.block (a20'.off + 2)) fun x21' =>
     A10_3 x0 x2 x4 x6 x9 (decide (x21' < 8)) M Q)) :
    A10_2 x0 x2 x4 x6 x9 x41 M Q :=
  LvP.mk (cuts := K10) (sp := Z10) 900 H fun G => by kernel_rfl

theorem w10_3 {x0 : Option Addr} {x2 : Int} {x4 x6 x9 : Option Addr} {x46 : Bool} {M : Mem} {Q : Value → Mem → Prop} (H :
    cnd x46 (
     A10_4 x0 x2 x4 x6 x9 true M Q) (
     adS x4 fun a22' =>
     onS (M.intAt .i64 a22'.block (a22'.off + 2)) fun x23' =>
     A10_4 x0 x2 x4 x6 x9 (decide (x23' > 64)) M Q)) :
    A10_3 x0 x2 x4 x6 x9 x46 M Q :=
  LvP.mk (cuts := K10) (sp := Z10) 900 H fun G => by kernel_rfl

theorem w10_4 {x0 : Option Addr} {x2 : Int} {x4 x6 x9 : Option Addr} {x51 : Bool} {M : Mem} {Q : Value → Mem → Prop} (H :
    cnd x51 (
     A10_5 x0 x2 x4 x6 x9 true M Q) (
     adS x4 fun a24' =>
     onS (M.intAt .i64 a24'.block (a24'.off + 2)) fun x25' =>
     A10_5 x0 x2 x4 x6 x9 ((x25'.tmod 8) != 0) M Q)) :
    A10_4 x0 x2 x4 x6 x9 x51 M Q :=
  LvP.mk (cuts := K10) (sp := Z10) 900 H fun G => by kernel_rfl

theorem w10_5 {x0 : Option Addr} {x2 : Int} {x4 x6 x9 : Option Addr} {x57 : Bool} {M : Mem} {Q : Value → Mem → Prop} (H :
    cnd x57 (
     A10_6 x0 x2 x4 x6 x9 true M Q) (
     A10_6 x0 x2 x4 x6 x9 (decide (x2 < 0)) M Q)) :
    A10_5 x0 x2 x4 x6 x9 x57 M Q :=
  LvP.mk (cuts := K10) (sp := Z10) 900 H fun G => by kernel_rfl

theorem w10_6 {x0 : Option Addr} {x2 : Int} {x4 x6 x9 : Option Addr} {x61 : Bool} {M : Mem} {Q : Value → Mem → Prop} (H :
    cnd x61 (
     A10_7 x0 x2 x4 x6 x9 true M Q) (
     A10_7 x0 x2 x4 x6 x9 (decide (x2 > 2)) M Q)) :
    A10_6 x0 x2 x4 x6 x9 x61 M Q :=
  LvP.mk (cuts := K10) (sp := Z10) 900 H fun G => by kernel_rfl

theorem w10_7 {x0 : Option Addr} {x2 : Int} {x4 x6 x9 : Option Addr} {x21 : Bool} {M : Mem} {Q : Value → Mem → Prop} (H :
    cnd x21 (
     adS x9 fun a26' =>
     onS (M.intAt .i64 a26'.block a26'.off) fun x27' =>
     onS (M.intAt .i64 a26'.block (a26'.off + 1)) fun x28' =>
     onS (M.intAt .i64 a26'.block (a26'.off + 2)) fun x29' =>
     onS (M.intAt .i64 a26'.block (a26'.off + 3)) fun x30' =>
     adS x6 fun a31' =>
     stP (some 4) #[.int .i64 x27', .int .i64 x28', .int .i64 x29', .int .i64 x30'] M a31'.block a31'.off fun M32' =>
     adS x6 fun a33' =>
     onS (M32'.intAt .i64 a33'.block a33'.off) fun x34' =>
     onS (M32'.intAt .i64 a33'.block (a33'.off + 1)) fun x35' =>
     onS (M32'.intAt .i64 a33'.block (a33'.off + 2)) fun x36' =>
     onS (M32'.intAt .i64 a33'.block (a33'.off + 3)) fun x37' =>
     Q (.tuple #[.agg #[.int .i64 (x34'), .int .i64 (x35'), .int .i64 (x36'), .int .i64 (x37')], .int .i64 0, .int .i64 2]) M32') (
     adS x4 fun a38' =>
     onS (M.intAt .i64 a38'.block a38'.off) fun x39' =>
     adS x4 fun a40' =>
     onS (M.intAt .i64 a40'.block (a40'.off + 1)) fun x41' =>
     adS x4 fun a42' =>
     onS (M.intAt .i64 a42'.block a42'.off) fun x43' =>
     adS x4 fun a44' =>
     onS (M.intAt .i64 a44'.block (a44'.off + 1)) fun x45' =>
     adS x4 fun a46' =>
     onS (M.intAt .i64 a46'.block a46'.off) fun x47' =>
     adS x4 fun a48' =>
     onS (M.intAt .i64 a48'.block (a48'.off + 2)) fun x49' =>
     adS x4 fun a50' =>
     onS (M.intAt .i64 a50'.block (a50'.off + 1)) fun x51' =>
     adS x4 fun a52' =>
     onS (M.intAt .i64 a52'.block a52'.off) fun x53' =>
     adS x4 fun a54' =>
     onS (M.intAt .i64 a54'.block (a54'.off + 1)) fun x55' =>
     A10_8 x0 x2 x6 x9 0 (IntKind.i64.wrap (x39' - 1)) x41' x43' (IntKind.i64.wrap (x45' - 1)) (IntKind.i64.wrap (x47' + x49')) (IntKind.i64.wrap (x51' - 1)) (IntKind.i64.wrap (x53' - 1)) (IntKind.i64.wrap (x55' - 1)) 0 M Q)) :
    A10_7 x0 x2 x4 x6 x9 x21 M Q :=
  LvP.mk (cuts := K10) (sp := Z10) 900 H fun G => by kernel_rfl

theorem w10_8 {x0 : Option Addr} {x2 : Int} {x6 x9 : Option Addr} {x10 x94_0 x94_1 x94_2 x94_3 x94_4 x94_5 x94_6 x94_7 x95 : Int} {M : Mem} {Q : Value → Mem → Prop} (H :
    cnd (decide (x95 < 4)) (
     puS (strV Try.prog 74 (.agg #[.int .i64 x94_0, .int .i64 x94_1, .int .i64 x94_2, .int .i64 x94_3, .int .i64 x94_4, .int .i64 x94_5, .int .i64 x94_6, .int .i64 x94_7]) (.int .i64 x95)) fun v56' =>
     tyS (asA 2 v56') fun cs57' =>
     tyS (asI .i64 (cs57'.getD 0 undef)) fun x58' =>
     tyS (asI .i64 (cs57'.getD 1 undef)) fun x59' =>
     stP (some 2) #[.int .i64 x58', .int .i64 x59'] (M.new (.cells #[.int .i64 0, .int .i64 0] 22)) (2 * M.nb.size) 0 fun M60' =>
     ixS (idxA (some ⟨2 * M.nb.size, 0, none⟩) 2 1 0) fun a61' =>
     onS (M60'.intAt .i64 a61'.block a61'.off) fun x62' =>
     ixS (idxA (some ⟨2 * M.nb.size, 0, none⟩) 2 1 1) fun a63' =>
     onS (M60'.intAt .i64 a63'.block a63'.off) fun x64' =>
     Cn Try.prog 14 #[.pointer x0, .int .i64 x62', .int .i64 x64'] M60' fun v65' N65' =>
      tyS (asU 2 v65') fun cs66' =>
      tyS (asA 23 (cs66'.getD 0 undef)) fun cs67' =>
      asCellsP tyZpE0 0 cs67' fun vs68' =>
      tyS (asB (cs66'.getD 1 undef)) fun b69' =>
      tyS (asA 23 (.agg vs68'.toArray)) fun cs70' =>
      asCellsP tyZpE0 0 cs70' fun vs71' =>
      stP (some 23) vs71'.toArray (N65'.new (.cells #[.int .i64 0, .int .i64 0, .int .i64 0, .int .i64 0, .bool false, .bool false, .int .i64 0, .int .i64 0, .int .i64 0, .int .i64 0, .int .i64 0, .int .i64 0, .int .i64 0, .bool false, .int .i64 0, .int .i64 0, .int .i64 0, .int .i64 0, .int .i64 0, .int .i64 0, .int .i64 0, .int .i64 0, .bool false] 27)) (2 * N65'.nb.size) 0 fun M72' =>
      ldP tyZpE0 M72' (2 * N65'.nb.size) 0 fun vs73' =>
      Cn Try.prog 28 #[.agg vs73'.toArray, .int .i64 x2] M72' fun v74' N74' =>
       tyS (asU 2 v74') fun cs75' =>
       tyS (asA 2 (cs75'.getD 0 undef)) fun cs76' =>
       tyS (asI .i64 (cs76'.getD 0 undef)) fun x77' =>
       tyS (asI .i64 (cs76'.getD 1 undef)) fun x78' =>
       tyS (asB (cs75'.getD 1 undef)) fun b79' =>
       stP (some 2) #[.int .i64 x77', .int .i64 x78'] (N74'.new (.cells #[.int .i64 0, .int .i64 0] 24)) (2 * N74'.nb.size) 0 fun M80' =>
       cnd b79' (
        cnd (decide (x10 < 2)) (
         puS (sliceP Try.prog 25 (.pointer x9) none (some (.int .i64 x10)) none) fun v81' =>
         tyS (asS v81') fun s82' =>
         onS (M80'.intAt .i64 (2 * N74'.nb.size) 0) fun x83' =>
         onS (M80'.intAt .i64 (2 * N74'.nb.size) (0 + 1)) fun x84' =>
         Cn Try.prog 29 #[.slice s82'.1 (s82'.2.1) (s82'.2.2), .agg #[.int .i64 x83', .int .i64 x84']] M80' fun v85' N85' =>
          tyS (asB v85') fun b86' =>
          A10_9 x0 x2 x6 x9 x10 (some ⟨2 * N74'.nb.size, 0, none⟩) x94_0 x94_1 x94_2 x94_3 x94_4 x94_5 x94_6 x94_7 x95 (!b86') N85' Q) (
         A10_9 x0 x2 x6 x9 x10 (some ⟨2 * N74'.nb.size, 0, none⟩) x94_0 x94_1 x94_2 x94_3 x94_4 x94_5 x94_6 x94_7 x95 false M80' Q)) (
        A10_9 x0 x2 x6 x9 x10 (some ⟨2 * N74'.nb.size, 0, none⟩) x94_0 x94_1 x94_2 x94_3 x94_4 x94_5 x94_6 x94_7 x95 false M80' Q)) (
     adS x9 fun a87' =>
     onS (M.intAt .i64 a87'.block a87'.off) fun x88' =>
     onS (M.intAt .i64 a87'.block (a87'.off + 1)) fun x89' =>
     onS (M.intAt .i64 a87'.block (a87'.off + 2)) fun x90' =>
     onS (M.intAt .i64 a87'.block (a87'.off + 3)) fun x91' =>
     adS x6 fun a92' =>
     stP (some 4) #[.int .i64 x88', .int .i64 x89', .int .i64 x90', .int .i64 x91'] M a92'.block a92'.off fun M93' =>
     adS x6 fun a94' =>
     onS (M93'.intAt .i64 a94'.block a94'.off) fun x95' =>
     onS (M93'.intAt .i64 a94'.block (a94'.off + 1)) fun x96' =>
     onS (M93'.intAt .i64 a94'.block (a94'.off + 2)) fun x97' =>
     onS (M93'.intAt .i64 a94'.block (a94'.off + 3)) fun x98' =>
     Q (.tuple #[.agg #[.int .i64 (x95'), .int .i64 (x96'), .int .i64 (x97'), .int .i64 (x98')], .int .i64 x10, .int .i64 0]) M93')) :
    A10_8 x0 x2 x6 x9 x10 x94_0 x94_1 x94_2 x94_3 x94_4 x94_5 x94_6 x94_7 x95 M Q :=
  LvP.mk (cuts := K10) (sp := Z10) 900 H fun G => by kernel_rfl

theorem w10_9 {x0 : Option Addr} {x2 : Int} {x6 x9 : Option Addr} {x10 : Int} {x15 : Option Addr} {x94_0 x94_1 x94_2 x94_3 x94_4 x94_5 x94_6 x94_7 x95 : Int} {x124 : Bool} {M : Mem} {Q : Value → Mem → Prop} (H :
    cnd x124 (
     adS x15 fun a99' =>
     onS (M.intAt .i64 a99'.block a99'.off) fun x100' =>
     onS (M.intAt .i64 a99'.block (a99'.off + 1)) fun x101' =>
     ixS (idxA x9 2 2 x10) fun a102' =>
     stP (some 2) #[.int .i64 x100', .int .i64 x101'] M a102'.block a102'.off fun M103' =>
     A10_10 x0 x2 x6 x9 (IntKind.i64.wrap (x10 + 1)) x94_0 x94_1 x94_2 x94_3 x94_4 x94_5 x94_6 x94_7 x95 M103' Q) (
     A10_10 x0 x2 x6 x9 x10 x94_0 x94_1 x94_2 x94_3 x94_4 x94_5 x94_6 x94_7 x95 M Q)) :
    A10_9 x0 x2 x6 x9 x10 x15 x94_0 x94_1 x94_2 x94_3 x94_4 x94_5 x94_6 x94_7 x95 x124 M Q :=
  LvP.mk (cuts := K10) (sp := Z10) 900 H fun G => by kernel_rfl

theorem w10_10 {x0 : Option Addr} {x2 : Int} {x6 x9 : Option Addr} {x10 x94_0 x94_1 x94_2 x94_3 x94_4 x94_5 x94_6 x94_7 x95 : Int} {M : Mem} {Q : Value → Mem → Prop} (H :
    A10_8 x0 x2 x6 x9 x10 x94_0 x94_1 x94_2 x94_3 x94_4 x94_5 x94_6 x94_7 (IntKind.i64.wrap (x95 + 1)) M Q) :
    A10_10 x0 x2 x6 x9 x10 x94_0 x94_1 x94_2 x94_3 x94_4 x94_5 x94_6 x94_7 x95 M Q :=
  LvP.mk (cuts := K10) (sp := Z10) 900 H fun G => by kernel_rfl


end Go.Zt

/- Layer 17: vectors: vec, Contains, Vecs. -/
set_option linter.unusedSimpArgs false
set_option linter.unusedVariables false
set_option maxRecDepth 100000
namespace Go.Zt
open Go Go.Sim Go.Proofs Go.RowKit

/-! ### Plain -/
def vecB (b : Bk) (r : Int) : Option (Int × Int) := if b.it = false then none else if b.r0 = r then some (b.v0, b.v1) else if b.cp = true ∧ b.r1 = r then some (b.v2, b.v3) else none
def vstep (r : Int) (out : List (Int × Int)) (o : Option Bk) : List (Int × Int) :=
  match vecB (o.getD zB) r with
  | some v => if out.length < 2 ∧ v ∉ out then out ++ [v] else out
  | none => out
def vplaces (x y w : Int) : List (Int × Int) := [(x - 1, y), (x, y - 1), (x + w, y - 1), (x - 1, y - 1)]
def vecsS (L : List Bk) (x y w r : Int) : List (Int × Int) := (vplaces x y w).foldl (fun out p => vstep r out (atS p.1 p.2 L)) []
def vecsOk (t : Tl) (x y w r : Int) : Bool := decide (x % 8 = 0 ∧ y % 8 = 0) && t.in x y && decide (8 ≤ w ∧ w ≤ 64 ∧ w % 8 = 0 ∧ 0 ≤ r ∧ r ≤ 2)
def outC : List (Int × Int) → Array Value
  | [] => #[.int .i64 0, .int .i64 0, .int .i64 0, .int .i64 0]
  | [a] => #[.int .i64 a.1, .int .i64 a.2, .int .i64 0, .int .i64 0]
  | a :: b :: _ => #[.int .i64 a.1, .int .i64 a.2, .int .i64 b.1, .int .i64 b.2]
theorem vstep_len {r : Int} {out : List (Int × Int)} {o : Option Bk} (h : out.length ≤ 2) : (vstep r out o).length ≤ 2 := by
  unfold vstep
  split
  · split
    · rename_i hc; simp; omega
    · exact h
  · exact h
theorem eq24 (a b c d : Int) : binV Try.prog .eql 24 24 (.agg #[.int .i64 a, .int .i64 b]) (.agg #[.int .i64 c, .int .i64 d]) = some (.bool (decide ((a, b) = (c, d)))) := by
  obtain ⟨z, h1, _, h3⟩ := binV_eqA (P := Try.prog) (k := 3) (t := 24) (tb := 24) (xs := [.int .i64 a, .int .i64 b]) (ys := [.int .i64 c, .int .i64 d]) (by decide) (by kernel_rfl) (by kernel_rfl) (by kernel_rfl) (by kernel_rfl) (by kernel_rfl) rfl rfl
  have : z = decide ((a, b) = (c, d)) := by
    rw [Bool.eq_iff_iff, h3, decide_eq_true_eq]
    simp
  rw [h1, this]
section
variable {M : Mem} {A : Option Addr} {l : List (Int × Int)} {n c : Nat} {u v : Int}
theorem c29 (hf : M.floor ≤ M.nb.size) (R : Row M A (Pls l)) (hn : n = l.length) (hb : n ≤ 1000) : Cn Try.prog 29 #[.slice A n c, .agg #[.int .i64 u, .int .i64 v]] M fun x N => x = .bool (decide ((u, v) ∈ l)) ∧ Keep M N := by
  have a := Mem.new_at M (.cells #[.int .i64 u, .int .i64 v] 24)
  have K1 : Keep M (M.new (.cells #[.int .i64 u, .int .i64 v] 24)) := .new _ _
  refine w29_0 ?_
  generalize M.new (.cells #[.int .i64 u, .int .i64 v] 24) = M1 at a K1 ⊢
  refine on (int_of (i := 0) a rfl) (on (int_of (i := 0 + 1) a rfl) (w42_0 ?_))
  have a2 := Mem.new_at M1 (.cells #[.int .i64 u, .int .i64 v] 24)
  have K2 : Keep M1 (M1.new (.cells #[.int .i64 u, .int .i64 v] 24)) := .new _ _
  generalize M1.new (.cells #[.int .i64 u, .int .i64 v] 24) = M2 at a2 K2 ⊢
  have R2 := (R.keep K1).keep K2
  have T2 := K1.trans K2
  have loop : ∀ (q i : Nat), i + q = n → (∀ p ∈ l.take i, p ≠ (u, v)) → A42_1 A n c (some ⟨2 * M1.nb.size, 0, none⟩) (n : Int) (i : Int) M2 fun v3' N3' => tyS (asI .i64 v3') fun x4' => (fun x N => x = Value.bool (decide ((u, v) ∈ l)) ∧ Keep M N) (.bool (decide (x4' ≥ 0))) N3' := by
    intro q
    induction q with
    | zero =>
      intro i hi hno
      refine w42_1 (cF (decide_eq_false (by omega)) (ty rfl ⟨?_, T2⟩))
      rw [List.take_of_length_le (by omega)] at hno
      rw [decide_eq_false (show ¬ ((u, v) ∈ l) from fun h => hno _ h rfl)]
      rfl
    | succ q ih =>
      intro i hi hno
      have hlt : i < l.length := by omega
      obtain ⟨a', e1, e2, e3⟩ := Pls.at R2 (n := n) (i := i) (z := (i : Int)) rfl (by omega) hlt
      refine w42_1 (cT (decide_eq_true (by omega)) (ad rfl (on (int_of (i := 0) a2 rfl) (on (int_of (i := 0 + 1) a2 rfl) (ix e1 (on e2 (on e3 (pu (eq24 _ _ _ _) (ty rfl (cd (fun h => ty rfl ⟨?_, T2⟩) fun h => ?_))))))))))
      · have hm : (u, v) ∈ l := by rw [h]; exact List.getElem_mem hlt
        rw [decide_eq_true hm, decide_eq_true (by omega)]
      · rw [i64w (by omega)]
        refine ih (i + 1) (by omega) fun p hp => ?_
        rw [List.take_succ_eq_append_getElem hlt] at hp
        rcases List.mem_append.1 hp with hp | hp
        · exact hno p hp
        · rw [List.mem_singleton.1 hp]; exact fun e => h e.symm
  exact loop n 0 (by omega) fun p hp => by simp at hp
end
def vecV : Option (Int × Int) → Value
  | none => .tuple #[.agg #[.int .i64 0, .int .i64 0], .bool false]
  | some v => .tuple #[.agg #[.int .i64 v.1, .int .i64 v.2], .bool true]
theorem c28 {M : Mem} {b : Bk} {r : Int} (hf : M.floor ≤ M.nb.size) : Cn Try.prog 28 #[.agg b.cs, .int .i64 r] M fun x N => x = vecV (vecB b r) ∧ Keep M N := by
  have a := Mem.new_at M (.cells b.cs 27)
  have K1 : Keep M (M.new (.cells b.cs 27)) := .new _ _
  have z1 := Mem.new_size M (.cells b.cs 27)
  refine w28_0 ?_
  generalize M.new (.cells b.cs 27) = M1 at a K1 z1 ⊢
  have a2 := Mem.new_at M1 (.cells #[.int .i64 0, .int .i64 0] 24)
  have K2 : Keep M1 (M1.new (.cells #[.int .i64 0, .int .i64 0] 24)) := .new _ _
  have ab := at_keep a K2
  generalize M1.new (.cells #[.int .i64 0, .int .i64 0] 24) = M2 at a2 K2 ab ⊢
  have T2 := K1.trans K2
  have fl : M2.floor ≤ M1.nb.size := by rw [T2.floor]; omega
  have no : vecB b r = none → A28_1 (some ⟨2 * M1.nb.size, 0, none⟩) M2 fun x N => x = vecV (vecB b r) ∧ Keep M N := fun h =>
    w28_1 (ad rfl (stA (cs := #[.int .i64 0, .int .i64 0]) a2 fl rfl rfl rfl fun N C z u => ad rfl (on (int_of (i := 0) u rfl) (on (int_of (i := 0 + 1) u rfl) ⟨by rw [h]; rfl, Keep.step T2 C fun i hi => by omega⟩))))
  refine on (bool_of (i := 0 + 5) ab rfl) (cnn (fun hi => no (by unfold vecB; rw [if_pos hi])) fun hi => ?_)
  have hi' : ¬ b.it = false := by rw [hi]; decide
  refine ix (x := ⟨2 * M.nb.size, 14, none⟩) (by kernel_rfl) (on (int_of (i := 14) ab rfl) (ce (fun h0 => ?_) fun h0 => ?_))
  · refine ix (x := ⟨2 * M.nb.size, 17, none⟩) (by kernel_rfl) (on (int_of (i := 17) ab rfl) (on (int_of (i := 17 + 1) ab rfl) (stA (cs := #[.int .i64 b.v0, .int .i64 b.v1]) a2 fl rfl rfl rfl fun N C z u => on (int_of (i := 0) u rfl) (on (int_of (i := 0 + 1) u rfl) ⟨?_, Keep.step T2 C fun i hi => by omega⟩))))
    unfold vecB; rw [if_neg hi', if_pos h0]; rfl
  · refine on (bool_of (i := 0 + 13) ab rfl) (cn (fun hc => ?_) fun hc => w28_2 (cF rfl (no (by unfold vecB; rw [if_neg hi', if_neg h0, if_neg (fun q => by rw [hc] at q; cases q.1)]))))
    refine ix (x := ⟨2 * M.nb.size, 15, none⟩) (by kernel_rfl) (on (int_of (i := 15) ab rfl) (w28_2 (ce (fun h1 => ?_) fun h1 => no (by unfold vecB; rw [if_neg hi', if_neg h0, if_neg (fun q => h1 q.2)]))))
    refine ad rfl (ix (x := ⟨2 * M.nb.size, 19, none⟩) (by kernel_rfl) (on (int_of (i := 19) ab rfl) (on (int_of (i := 19 + 1) ab rfl) (ad rfl (stA (cs := #[.int .i64 b.v2, .int .i64 b.v3]) a2 fl rfl rfl rfl fun N C z u => ad rfl (on (int_of (i := 0) u rfl) (on (int_of (i := 0 + 1) u rfl) ⟨?_, Keep.step T2 C fun i hi => by omega⟩)))))))
    unfold vecB; rw [if_neg hi', if_neg h0, if_pos ⟨hc, h1⟩]; rfl
theorem slArr {jo n : Nat} (hn : n ≤ 2) : sliceP Try.prog 25 (.pointer (some ⟨2 * jo, 0, none⟩)) none (some (.int .i64 (n : Int))) none = some (.slice (some ⟨2 * jo, 0, none⟩) n 2) := by
  have h1 : Try.prog.underlying 25 = some (.array 2 24) := by kernel_rfl
  have h2 : sizeP Try.prog 24 = some 2 := by kernel_rfl
  have e1 : bound none 2 2 = some 2 := rfl
  have e2 : bound (some (.int .i64 (n : Int))) 2 2 = some n := by
    show (if (0 : Int) ≤ (n : Int) ∧ (n : Int) ≤ ((2 : Nat) : Int) then some (n : Int).toNat else none) = some n
    rw [if_pos (by omega), Int.toNat_natCast]
  have e3 : bound none n 0 = some 0 := rfl
  unfold sliceP
  simp only [h1, e1, e2, e3, h2, Option.bind_some, Option.isNone_some, Bool.false_and, Bool.false_eq_true, if_false]
  rw [if_neg (by rintro (h | h)
                 · omega
                 · exact h rfl), if_neg (by decide)]
  simp
theorem row_at' {M : Mem} {j : Nat} {cs : Array Value} {t : TypeId} (a : M.nb[j]? = some (.cells cs t)) : Row M (some ⟨2 * j, 0, none⟩) cs.toList := by
  intro i hi
  refine ⟨_, rfl, ?_⟩
  rw [cell_of a, Nat.zero_add]
  have : i < cs.size := by simpa using hi
  simp [this]
theorem out_row {M : Mem} {jo : Nat} {out : List (Int × Int)} (a : M.nb[jo]? = some (.cells (outC out) 25)) (h : out.length ≤ 2) : Row M (some ⟨2 * jo, 0, none⟩) (Pls out) := by
  have r := row_at' a
  intro i hi
  have hl := Pls_len out
  match out, h with
  | [], _ => simp at hi
  | [p], _ =>
    obtain ⟨a', e1, e2⟩ := r i (by simp at hi; simp [outC]; omega)
    refine ⟨a', e1, ?_⟩
    rw [e2]
    have : i = 0 ∨ i = 1 := by simp at hi; omega
    rcases this with rfl | rfl <;> rfl
  | [p, q], _ =>
    obtain ⟨a', e1, e2⟩ := r i (by simp at hi; simp [outC]; omega)
    refine ⟨a', e1, ?_⟩
    rw [e2]
    have : i = 0 ∨ i = 1 ∨ i = 2 ∨ i = 3 := by simp at hi; omega
    rcases this with rfl | rfl | rfl | rfl <;> rfl
end Go.Zt

/- Layer 17: Vecs. -/
set_option linter.unusedSimpArgs false
set_option linter.unusedVariables false
set_option maxRecDepth 100000
namespace Go.Zt
open Go Go.Sim Go.Proofs Go.RowKit

theorem cO2 {b c : Bool} {X : Prop} (F : Bool → Prop) (h : F (b || c)) (k : F c → X) : cnd b (F true) X := by
  cases b
  · exact k h
  · exact h
def zero4 : Array Value := #[.int .i64 0, .int .i64 0, .int .i64 0, .int .i64 0]
def vecsV (L : List Bk) (t : Tl) (x y w r : Int) : Value := if vecsOk t x y w r then .tuple #[.agg (outC (vecsS L x y w r)), .int .i64 ((vecsS L x y w r).length : Nat), .int .i64 0] else .tuple #[.agg (outC []), .int .i64 0, .int .i64 2]
theorem outC_size (out : List (Int × Int)) : (outC out).size = 4 := by
  match out with
  | [] => rfl
  | [_] => rfl
  | _ :: _ :: _ => rfl
/-- A vector is put behind those that there are. -/
theorem outC_set {out : List (Int × Int)} {v : Int × Int} (h : out.length < 2) : ((outC out).setIfInBounds (2 * out.length) (.int .i64 v.1)).setIfInBounds (2 * out.length + 1) (.int .i64 v.2) = outC (out ++ [v]) := by
  match out, h with
  | [], _ => rfl
  | [_], _ => rfl
theorem on4 {M : Mem} {j : Nat} {out : List (Int × Int)} {t : TypeId} (a : M.nb[j]? = some (.cells (outC out) t)) {P : Int → Int → Int → Int → Prop} (k : ∀ p q r s : Int, #[.int .i64 p, .int .i64 q, .int .i64 r, .int .i64 s] = outC out → P p q r s) :
    onS (M.intAt .i64 (2 * j) 0) fun p => onS (M.intAt .i64 (2 * j) (0 + 1)) fun q => onS (M.intAt .i64 (2 * j) (0 + 2)) fun r => onS (M.intAt .i64 (2 * j) (0 + 3)) fun s => P p q r s := by
  match out, a with
  | [], a => exact on (int_of (i := 0) a rfl) (on (int_of (i := 0 + 1) a rfl) (on (int_of (i := 0 + 2) a rfl) (on (int_of (i := 0 + 3) a rfl) (k _ _ _ _ rfl))))
  | [_], a => exact on (int_of (i := 0) a rfl) (on (int_of (i := 0 + 1) a rfl) (on (int_of (i := 0 + 2) a rfl) (on (int_of (i := 0 + 3) a rfl) (k _ _ _ _ rfl))))
  | _ :: _ :: _, a => exact on (int_of (i := 0) a rfl) (on (int_of (i := 0 + 1) a rfl) (on (int_of (i := 0 + 2) a rfl) (on (int_of (i := 0 + 3) a rfl) (k _ _ _ _ rfl))))
section
variable {V : Nat → Prop} {M M0 : Mem} {j jm jr jo : Nat} {t : Tl} {L : List Bk} {r p0 p1 p2 p3 p4 p5 p6 p7 : Int} {Q : Value → Mem → Prop}
set_option maxHeartbeats 1000000 in
theorem e10_8 {i : Nat} {px py : Int} {out : List (Int × Int)} (hi : i < 4) (hs : strV Try.prog 74 (.agg #[.int .i64 p0, .int .i64 p1, .int .i64 p2, .int .i64 p3, .int .i64 p4, .int .i64 p5, .int .i64 p6, .int .i64 p7]) (.int .i64 (i : Int)) = some (.agg #[.int .i64 px, .int .i64 py]))
    (hf : M.floor ≤ M.nb.size) (G : Gr V M j jm t L) (rx : i64R px) (ry : i64R py) (ho : out.length ≤ 2) (a : M.nb[jo]? = some (.cells (outC out) 25)) (fo : M.floor ≤ jo)
    (next : ∀ N, Chg (· = jo) M N → N.nb[jo]? = some (.cells (outC (vstep r out (atS px py L))) 25) → A10_8 (some ⟨2 * j, 0, none⟩) r (some ⟨2 * jr, 0, none⟩) (some ⟨2 * jo, 0, none⟩) ((vstep r out (atS px py L)).length : Nat) p0 p1 p2 p3 p4 p5 p6 p7 ((i + 1 : Nat) : Int) N Q) :
    A10_8 (some ⟨2 * j, 0, none⟩) r (some ⟨2 * jr, 0, none⟩) (some ⟨2 * jo, 0, none⟩) (out.length : Nat) p0 p1 p2 p3 p4 p5 p6 p7 (i : Int) M Q := by
  have lo := lt_of_at a
  refine w10_8 (cT (decide_eq_true (by omega)) (pu hs (ty rfl (ty rfl (ty rfl (stN (cs := #[.int .i64 px, .int .i64 py]) hf rfl rfl rfl fun M1 K1 z1 b1 => ?_))))))
  refine ix (x := ⟨2 * M.nb.size, 0, none⟩) (by kernel_rfl) (on (int_of (i := 0) b1 rfl) (ix (x := ⟨2 * M.nb.size, 1, none⟩) (by kernel_rfl) (on (int_of (i := 1) b1 rfl) (Cn.mono (c14 (fb hf K1) (G.keep K1) rx ry) ?_))))
  rintro _ N1 ⟨rfl, K2⟩
  have T2 := K1.trans K2
  have step : ∀ (b : Bk) (f : Bool), (atS px py L).getD zB = b → atV (atS px py L) = .tuple #[.agg b.cs, .bool f] → tyS (asU 2 (atV (atS px py L))) fun cs66' =>
      tyS (asA 23 (cs66'.getD 0 undef)) fun cs67' =>
      asCellsP tyZpE0 0 cs67' fun vs68' =>
      tyS (asB (cs66'.getD 1 undef)) fun b69' =>
      tyS (asA 23 (.agg vs68'.toArray)) fun cs70' =>
      asCellsP tyZpE0 0 cs70' fun vs71' => vs71' = b.cs.toList := by
    intro b f _ h2
    rw [h2]
    exact ty rfl (ty rfl (ac0 rfl (ty rfl (ty rfl (ac0 rfl rfl)))))
  obtain ⟨b, f, hb, hv⟩ : ∃ b f, (atS px py L).getD zB = b ∧ atV (atS px py L) = .tuple #[.agg b.cs, .bool f] := by
    cases atS px py L with
    | none => exact ⟨zB, false, rfl, rfl⟩
    | some b => exact ⟨b, true, rfl, rfl⟩
  rw [hv]
  refine ty rfl (ty rfl (ac0 rfl (ty rfl (ty rfl (ac0 rfl (stN (cs := b.cs) (fb hf T2) rfl rfl rfl fun M3 K3 z3 b3 => ldA b3 rfl ?_))))))
  have T3 := T2.trans K3
  refine Cn.mono (c28 (b := b) (fb hf T3)) ?_
  rintro _ N4 ⟨rfl, K4⟩
  have T4 := T3.trans K4
  have vst : vstep r out (atS px py L) = match vecB b r with | some v => if out.length < 2 ∧ v ∉ out then out ++ [v] else out | none => out := by unfold vstep; rw [hb]; rfl
  have stay : vstep r out (atS px py L) = out → ∀ {N : Mem} {ju : Nat}, Keep M N → A10_9 (some ⟨2 * j, 0, none⟩) r (some ⟨2 * jr, 0, none⟩) (some ⟨2 * jo, 0, none⟩) (out.length : Nat) (some ⟨2 * ju, 0, none⟩) p0 p1 p2 p3 p4 p5 p6 p7 (i : Int) false N Q := by
    intro h N ju K
    refine w10_9 (cF rfl (w10_10 ?_))
    rw [i64w (by omega)]
    have := next N (K.mono fun _ _ h => h.elim) (by rw [h]; exact at_keep a K)
    rw [h] at this
    exact this
  cases hvb : vecB b r with
  | none =>
    refine ty rfl (ty rfl (ty rfl (ty rfl (ty rfl (stN (cs := #[.int .i64 0, .int .i64 0]) (fb hf T4) rfl rfl rfl fun M5 K5 z5 b5 => cF rfl (stay (by rw [vst, hvb]) (T4.trans K5)))))))
  | some v =>
    refine ty rfl (ty rfl (ty rfl (ty rfl (ty rfl (stN (cs := #[.int .i64 v.1, .int .i64 v.2]) (fb hf T4) rfl rfl rfl fun M5 K5 z5 b5 => cT rfl ?_)))))
    have T5 := T4.trans K5
    have a5 := at_keep a T5
    by_cases h2 : out.length < 2
    · refine cT (decide_eq_true (by omega)) (pu (slArr ho) (ty rfl (on (int_of (i := 0) b5 rfl) (on (int_of (i := 0 + 1) b5 rfl) (Cn.mono (c29 (n := out.length) (c := 2) (fb hf T5) (out_row a5 ho) rfl (by omega)) ?_)))))
      rintro _ N6 ⟨rfl, K6⟩
      have T6 := T5.trans K6
      refine ty rfl ?_
      by_cases hm : (v.1, v.2) ∈ out
      · rw [decide_eq_true hm]
        exact stay (by rw [vst, hvb]; show (if out.length < 2 ∧ v ∉ out then _ else _) = _; rw [if_neg (fun q => q.2 hm)]) T6
      · rw [decide_eq_false hm]
        have hvs : vstep r out (atS px py L) = out ++ [v] := by rw [vst, hvb]; show (if out.length < 2 ∧ v ∉ out then _ else _) = _; rw [if_pos ⟨h2, hm⟩]
        have b6 := at_keep b5 K6
        have a6 := at_keep a5 K6
        have f6 : N6.floor ≤ jo := by rw [T6.floor]; exact fo
        obtain ⟨M7, p7, C7, z7, a7⟩ := put1 (2 * out.length) (.int .i64 v.1) a6 f6 (by rw [outC_size]; omega) rfl
        obtain ⟨M8, p8, C8, z8, a8⟩ := put1 (2 * out.length + 1) (.int .i64 v.2) a7 (by rw [C7.floor]; exact f6) (by rw [Array.size_setIfInBounds, outC_size]; omega) rfl
        rw [outC_set h2] at a8
        have hix : idxA (some ⟨2 * jo, 0, none⟩) 2 2 ((out.length : Nat) : Int) = some ⟨2 * jo, 2 * out.length, none⟩ := by
          unfold idxA
          rw [if_pos (by omega)]
          simp
          try omega
        refine w10_9 (cT rfl (ad rfl (on (int_of (i := 0) b6 rfl) (on (int_of (i := 0 + 1) b6 rfl) (ix hix ⟨rfl, pt p7 (pt p8 (w10_10 ?_))⟩)))))
        rw [i64w (x := ((out.length : Nat) : Int) + 1) (by omega), i64w (by omega)]
        have := next M8 (((T6.mono fun _ _ h => h.elim).trans C7).trans C8) (by rw [hvs]; exact a8)
        rw [hvs] at this
        simpa using this
    · exact cF (decide_eq_false (by omega)) (stay (by rw [vst, hvb]; show (if out.length < 2 ∧ v ∉ out then _ else _) = _; rw [if_neg (fun q => h2 q.1)]) T5)
set_option maxHeartbeats 2000000 in
theorem c10 {x y w h : Int} (hf : M.floor ≤ M.nb.size) (G : Gr V M j jm t L) (hr : i64R x ∧ i64R y ∧ i64R w ∧ i64R r) : Cn Try.prog 10 #[PtrB j, .agg #[.int .i64 x, .int .i64 y, .int .i64 w, .int .i64 h], .int .i64 r] M fun v N => v = vecsV L t x y w r ∧ Keep M N := by
  have a := Mem.new_at M (.cells #[.int .i64 x, .int .i64 y, .int .i64 w, .int .i64 h] 35)
  have K1 : Keep M (M.new (.cells #[.int .i64 x, .int .i64 y, .int .i64 w, .int .i64 h] 35)) := .new _ _
  have z1 := Mem.new_size M (.cells #[.int .i64 x, .int .i64 y, .int .i64 w, .int .i64 h] 35)
  refine w10_0 ?_
  generalize M.new (.cells #[.int .i64 x, .int .i64 y, .int .i64 w, .int .i64 h] 35) = M1 at a K1 z1 ⊢
  have ar := Mem.new_at M1 (.cells #[.int .i64 0, .int .i64 0, .int .i64 0, .int .i64 0] 25)
  have K2 : Keep M1 (M1.new (.cells #[.int .i64 0, .int .i64 0, .int .i64 0, .int .i64 0] 25)) := .new _ _
  have z2 := Mem.new_size M1 (.cells #[.int .i64 0, .int .i64 0, .int .i64 0, .int .i64 0] 25)
  generalize M1.new (.cells #[.int .i64 0, .int .i64 0, .int .i64 0, .int .i64 0] 25) = M2 at ar K2 z2 ⊢
  have ao := Mem.new_at M2 (.cells #[.int .i64 0, .int .i64 0, .int .i64 0, .int .i64 0] 25)
  have K3 : Keep M2 (M2.new (.cells #[.int .i64 0, .int .i64 0, .int .i64 0, .int .i64 0] 25)) := .new _ _
  have z3 := Mem.new_size M2 (.cells #[.int .i64 0, .int .i64 0, .int .i64 0, .int .i64 0] 25)
  generalize M2.new (.cells #[.int .i64 0, .int .i64 0, .int .i64 0, .int .i64 0] 25) = M3 at ao K3 z3 ⊢
  have a3 := at_keep (at_keep a K2) K3
  have ar3 := at_keep ar K3
  have T3 := (K1.trans K2).trans K3
  have G3 := G.keep T3
  obtain ⟨A, c, es, k, g1, _⟩ := G3.ex
  have f3 := fb hf T3
  have hm := G.may
  unfold Tl.may spanB at hm
  simp only [Bool.and_eq_true, decide_eq_true_eq] at hm
  have flr : M3.floor ≤ M.nb.size := by rw [T3.floor]; exact hf
  -- the end: what is told is copied
  have endQ : ∀ {N : Mem} {out : List (Int × Int)} {e : Int}, Chg (fun i => i = M2.nb.size) M3 N → N.nb[M2.nb.size]? = some (.cells (outC out) 25) → ∀ {P : Int → Int → Int → Int → Mem → Prop}, (∀ p q u s N', #[.int .i64 p, .int .i64 q, .int .i64 u, .int .i64 s] = outC out → Keep M N' → P p q u s N') →
      onS (N.intAt .i64 (2 * M2.nb.size) 0) fun p => onS (N.intAt .i64 (2 * M2.nb.size) (0 + 1)) fun q => onS (N.intAt .i64 (2 * M2.nb.size) (0 + 2)) fun u => onS (N.intAt .i64 (2 * M2.nb.size) (0 + 3)) fun s =>
        adS (some (⟨2 * M1.nb.size, 0, none⟩ : Addr)) fun a' => stP (some 4) #[.int .i64 p, .int .i64 q, .int .i64 u, .int .i64 s] N a'.block a'.off fun N' => adS (some (⟨2 * M1.nb.size, 0, none⟩ : Addr)) fun a2 =>
          onS (N'.intAt .i64 a2.block a2.off) fun p => onS (N'.intAt .i64 a2.block (a2.off + 1)) fun q => onS (N'.intAt .i64 a2.block (a2.off + 2)) fun u => onS (N'.intAt .i64 a2.block (a2.off + 3)) fun s => P p q u s N' := by
    intro N out e C u P hP
    refine on4 u fun p q u' s hc => ad rfl (stA (cs := #[.int .i64 p, .int .i64 q, .int .i64 u', .int .i64 s]) (at_chg ar3 C (by omega)) (by rw [C.floor]; omega) rfl rfl rfl fun N' C' z' b' => ad rfl ?_)
    rw [hc] at b'
    refine on4 b' fun p q u' s hc' => hP _ _ _ _ _ hc' ?_
    exact Keep.step (Keep.step T3 C fun i hi => by omega) C' fun i hi => by omega
  have bad : vecsOk t x y w r = false → A10_7 (some ⟨2 * j, 0, none⟩) r (some ⟨2 * M.nb.size, 0, none⟩) (some ⟨2 * M1.nb.size, 0, none⟩) (some ⟨2 * M2.nb.size, 0, none⟩) true M3 fun v N => v = vecsV L t x y w r ∧ Keep M N := fun h =>
    w10_7 (cT rfl (ad rfl (endQ (out := []) (e := 0) (.refl _) ao fun p q u s N' hc K => ⟨by unfold vecsV; rw [h, ← hc]; rfl, K⟩)))
  have key : ∀ b : Bool, b = !vecsOk t x y w r → A10_7 (some ⟨2 * j, 0, none⟩) r (some ⟨2 * M.nb.size, 0, none⟩) (some ⟨2 * M1.nb.size, 0, none⟩) (some ⟨2 * M2.nb.size, 0, none⟩) b M3 fun v N => v = vecsV L t x y w r ∧ Keep M N := by
    intro b hb
    cases hok : vecsOk t x y w r with
    | false => rw [hok] at hb; rw [hb]; exact bad hok
    | true =>
      rw [hok] at hb
      rw [hb]
      unfold vecsOk at hok
      simp only [Bool.and_eq_true, decide_eq_true_eq] at hok
      have hin := of_decide_eq_true hok.1.2
      refine w10_7 (cF rfl (ad rfl (on (int_of (i := 0) a3 rfl) (ad rfl (on (int_of (i := 0 + 1) a3 rfl) (ad rfl (on (int_of (i := 0) a3 rfl) (ad rfl (on (int_of (i := 0 + 1) a3 rfl) (ad rfl (on (int_of (i := 0) a3 rfl) (ad rfl (on (int_of (i := 0 + 2) a3 rfl) (ad rfl (on (int_of (i := 0 + 1) a3 rfl) (ad rfl (on (int_of (i := 0) a3 rfl) (ad rfl (on (int_of (i := 0 + 1) a3 rfl) ?_)))))))))))))))))))
      rw [i64w (x := x - 1) (by omega), i64w (x := y - 1) (by omega), i64w (x := x + w) (by omega)]
      have R : ∀ z : Int, -1 ≤ z ∧ z ≤ 1000 → i64R z := fun z hz => by unfold i64R; omega
      have fo : M3.floor ≤ M2.nb.size := by omega
      have tr : ∀ {N N' : Mem}, Chg (· = M2.nb.size) M3 N → Chg (· = M2.nb.size) N N' → Chg (· = M2.nb.size) M3 N' := fun h k => h.trans k
      have gr : ∀ {N : Mem}, Chg (· = M2.nb.size) M3 N → Gr V N j jm t L ∧ N.floor ≤ N.nb.size ∧ N.floor ≤ M2.nb.size := fun {N} C => by
        exact ⟨(G.keep (K1.trans K2)).keep (Keep.step K3 C fun i hi => by omega), by rw [C.floor]; have := C.size; omega, by rw [C.floor]; omega⟩
      refine e10_8 (i := 0) (out := []) (by decide) rfl f3 G3 (R _ (by omega)) (R _ (by omega)) (by decide) ao fo fun N1 C1 a1 => ?_
      obtain ⟨G4, f4, fo4⟩ := gr C1
      refine e10_8 (i := 1) (by decide) rfl f4 G4 (R _ (by omega)) (R _ (by omega)) (vstep_len (by decide)) a1 fo4 fun N2 C2 a2 => ?_
      have C2 := tr C1 C2
      obtain ⟨G5, f5, fo5⟩ := gr C2
      refine e10_8 (i := 2) (by decide) rfl f5 G5 (R _ (by omega)) (R _ (by omega)) (vstep_len (vstep_len (by decide))) a2 fo5 fun N3 C3 a3 => ?_
      have C3 := tr C2 C3
      obtain ⟨G6, f6, fo6⟩ := gr C3
      refine e10_8 (i := 3) (by decide) rfl f6 G6 (R _ (by omega)) (R _ (by omega)) (vstep_len (vstep_len (vstep_len (by decide)))) a3 fo6 fun N4 C4 a4 => ?_
      have C4 := tr C3 C4
      refine w10_8 (cF rfl (ad rfl (endQ (e := 0) C4 a4 fun p q u s N' hc K => ⟨?_, K⟩)))
      unfold vecsV vecsOk
      rw [decide_eq_true hok.1.1, hok.1.2, decide_eq_true hok.2]
      show Value.tuple #[.agg #[.int .i64 p, .int .i64 q, .int .i64 u, .int .i64 s], _, _] = Value.tuple #[.agg (outC (vecsS L x y w r)), _, _]
      rw [hc]
      rfl
  have t8 : ∀ z : Int, z.tmod 8 = 0 ↔ z % 8 = 0 := fun z => tmod_eq (a := z) 8 (by decide)
  have e : ((((((((x.tmod 8 != 0) || (y.tmod 8 != 0)) || !t.in x y) || decide (w < 8)) || decide (w > 64)) || (w.tmod 8 != 0)) || decide (r < 0)) || decide (r > 2)) = !vecsOk t x y w r := by
    have h : vecsOk t x y w r = true ↔ ((x % 8 = 0 ∧ y % 8 = 0) ∧ t.in x y = true) ∧ (8 ≤ w ∧ w ≤ 64 ∧ w % 8 = 0 ∧ 0 ≤ r ∧ r ≤ 2) := by
      unfold vecsOk
      simp only [Bool.and_eq_true, decide_eq_true_eq]
    have t1 := t8 x
    have t2 := t8 y
    have t3 := t8 w
    rw [Bool.eq_iff_iff]
    simp only [Bool.or_eq_true, bne_iff_ne, decide_eq_true_eq, Bool.not_eq_true', ← Bool.not_eq_true, h]
    constructor
    · rintro (((((((q | q) | q) | q) | q) | q) | q) | q) <;> intro g <;> first | exact q g.1.2 | omega
    · intro g
      by_cases hin : t.in x y = true
      · by_cases h1 : x.tmod 8 = 0
        · by_cases h2 : y.tmod 8 = 0
          · by_cases h3 : w.tmod 8 = 0
            · have : ¬ (8 ≤ w ∧ w ≤ 64 ∧ w % 8 = 0 ∧ 0 ≤ r ∧ r ≤ 2) := fun q => g ⟨⟨⟨t1.1 h1, t2.1 h2⟩, hin⟩, q⟩
              have h3' := t3.1 h3
              by_cases c1 : w < 8
              · exact .inl (.inl (.inl (.inl (.inr c1))))
              · by_cases c2 : w > 64
                · exact .inl (.inl (.inl (.inr c2)))
                · by_cases c3 : r < 0
                  · exact .inl (.inr c3)
                  · exact .inr (by omega)
            · exact .inl (.inl (.inr h3))
          · exact .inl (.inl (.inl (.inl (.inl (.inl (.inr h2))))))
        · exact .inl (.inl (.inl (.inl (.inl (.inl (.inl h1))))))
      · exact .inl (.inl (.inl (.inl (.inl (.inr hin)))))
  have k7 := key _ e
  refine Cn.eq (c24 g1) (ty rfl (cF rfl (on (int_of (i := 0) a3 rfl) ?_)))
  refine cO2 (c := (y.tmod 8) != 0) (fun z => A10_1 (some ⟨2 * j, 0, none⟩) r (some ⟨2 * M.nb.size, 0, none⟩) (some ⟨2 * M1.nb.size, 0, none⟩) (some ⟨2 * M2.nb.size, 0, none⟩) z M3 fun v N => v = vecsV L t x y w r ∧ Keep M N) (w10_1 ?_) ?k1
  case k1 => exact fun h => on (int_of (i := 0 + 1) a3 rfl) h
  refine cO2 (c := !t.in x y) (fun z => A10_2 (some ⟨2 * j, 0, none⟩) r (some ⟨2 * M.nb.size, 0, none⟩) (some ⟨2 * M1.nb.size, 0, none⟩) (some ⟨2 * M2.nb.size, 0, none⟩) z M3 fun v N => v = vecsV L t x y w r ∧ Keep M N) (w10_2 ?_) ?k2
  case k2 => exact fun h => ad rfl (on (int_of (i := 0) a3 rfl) (ad rfl (on (int_of (i := 0 + 1) a3 rfl) (Cn.eq (c26 g1 G.may hr.1 hr.2.1) (ty rfl h)))))
  refine cO2 (c := decide (w < 8)) (fun z => A10_3 (some ⟨2 * j, 0, none⟩) r (some ⟨2 * M.nb.size, 0, none⟩) (some ⟨2 * M1.nb.size, 0, none⟩) (some ⟨2 * M2.nb.size, 0, none⟩) z M3 fun v N => v = vecsV L t x y w r ∧ Keep M N) (w10_3 ?_) ?k3
  case k3 => exact fun h => ad rfl (on (int_of (i := 0 + 2) a3 rfl) h)
  refine cO2 (c := decide (w > 64)) (fun z => A10_4 (some ⟨2 * j, 0, none⟩) r (some ⟨2 * M.nb.size, 0, none⟩) (some ⟨2 * M1.nb.size, 0, none⟩) (some ⟨2 * M2.nb.size, 0, none⟩) z M3 fun v N => v = vecsV L t x y w r ∧ Keep M N) (w10_4 ?_) ?k4
  case k4 => exact fun h => ad rfl (on (int_of (i := 0 + 2) a3 rfl) h)
  refine cO2 (c := (w.tmod 8) != 0) (fun z => A10_5 (some ⟨2 * j, 0, none⟩) r (some ⟨2 * M.nb.size, 0, none⟩) (some ⟨2 * M1.nb.size, 0, none⟩) (some ⟨2 * M2.nb.size, 0, none⟩) z M3 fun v N => v = vecsV L t x y w r ∧ Keep M N) (w10_5 ?_) ?k5
  case k5 => exact fun h => ad rfl (on (int_of (i := 0 + 2) a3 rfl) h)
  refine cO (fun z => A10_6 (some ⟨2 * j, 0, none⟩) r (some ⟨2 * M.nb.size, 0, none⟩) (some ⟨2 * M1.nb.size, 0, none⟩) (some ⟨2 * M2.nb.size, 0, none⟩) z M3 fun v N => v = vecsV L t x y w r ∧ Keep M N) (w10_6 ?_)
  exact cO (fun z => A10_7 (some ⟨2 * j, 0, none⟩) r (some ⟨2 * M.nb.size, 0, none⟩) (some ⟨2 * M1.nb.size, 0, none⟩) (some ⟨2 * M2.nb.size, 0, none⟩) z M3 fun v N => v = vecsV L t x y w r ∧ Keep M N) k7
end
end Go.Zt

/- Layer 17: Skip, Inter. -/
set_option linter.unusedSimpArgs false
set_option linter.unusedVariables false
set_option maxRecDepth 100000
namespace Go.Zt
open Go Go.Sim Go.Proofs Go.RowKit

def one (f : Bk → Bool) (o : Option Bk) : Nat := if (o.map f).getD false then 1 else 0
def cntS (f : Bk → Bool) (L : List Bk) (x y : Int) : Nat := one f (atS (x - 1) y L) + one f (atS x (y - 1) L)
def cntOk (t : Tl) (x y : Int) : Bool := decide (x % 8 = 0 ∧ y % 8 = 0) && t.in x y
def cntV (f : Bk → Bool) (L : List Bk) (t : Tl) (x y : Int) : Value := if cntOk t x y then .tuple #[.int .i64 (cntS f L x y : Nat), .int .i64 0] else .tuple #[.int .i64 0, .int .i64 2]
theorem one_le (f : Bk → Bool) (o : Option Bk) : one f o ≤ 1 := by unfold one; split <;> omega
theorem c31 {M : Mem} {b : Bk} (hf : M.floor ≤ M.nb.size) : Cn Try.prog 31 #[.agg b.cs] M fun v N => v = .bool b.sk ∧ Keep M N :=
  w31_0 (on (bool_of (i := 0 + 4) (Mem.new_at M (.cells b.cs 27)) rfl) ⟨rfl, .new _ _⟩)
theorem c32 {M : Mem} {b : Bk} (hf : M.floor ≤ M.nb.size) : Cn Try.prog 32 #[.agg b.cs] M fun v N => v = .bool b.it ∧ Keep M N :=
  w32_0 (on (bool_of (i := 0 + 5) (Mem.new_at M (.cells b.cs 27)) rfl) ⟨rfl, .new _ _⟩)
section
variable {V : Nat → Prop} {M : Mem} {j jm : Nat} {t : Tl} {L : List Bk} {x y : Int} {f : Bk → Bool} {k : Nat} {p0 p1 p2 p3 : Int}
/-- What is asked of the function that is handed on. -/
def AskF (f : Bk → Bool) (k : Nat) : Prop := (∀ (b : Bk) (M : Mem), M.floor ≤ M.nb.size → Cn Try.prog k #[.agg b.cs] M fun v N => v = .bool (f b) ∧ Keep M N) ∧ ∀ b : Bk, callVal Try.prog (.func (.func k) #[] #[]) #[.agg b.cs] = some (k, #[.agg b.cs])
theorem e30_2 {Q : Value → Mem → Prop} {i n : Nat} {px py : Int} (hF : AskF f k) (hi : i < 2) (hn : n ≤ i) (hs : strV Try.prog 87 (.agg #[.int .i64 p0, .int .i64 p1, .int .i64 p2, .int .i64 p3]) (.int .i64 (i : Int)) = some (.agg #[.int .i64 px, .int .i64 py]))
    (hf : M.floor ≤ M.nb.size) (G : Gr V M j jm t L) (rx : i64R px) (ry : i64R py)
    (next : ∀ N, Keep M N → A30_2 (some ⟨2 * j, 0, none⟩) (.func (.func k) #[] #[]) ((n + one f (atS px py L) : Nat) : Int) p0 p1 p2 p3 ((i + 1 : Nat) : Int) N Q) :
    A30_2 (some ⟨2 * j, 0, none⟩) (.func (.func k) #[] #[]) (n : Int) p0 p1 p2 p3 (i : Int) M Q := by
  refine w30_2 (cT (decide_eq_true (by omega)) (pu hs (ty rfl (ty rfl (ty rfl (stN (cs := #[.int .i64 px, .int .i64 py]) hf rfl rfl rfl fun M1 K1 z1 b1 => ?_))))))
  refine ix (x := ⟨2 * M.nb.size, 0, none⟩) (by kernel_rfl) (on (int_of (i := 0) b1 rfl) (ix (x := ⟨2 * M.nb.size, 1, none⟩) (by kernel_rfl) (on (int_of (i := 1) b1 rfl) (Cn.mono (c14 (fb hf K1) (G.keep K1) rx ry) ?_))))
  rintro _ N1 ⟨rfl, K2⟩
  have T2 := K1.trans K2
  have fin : ∀ (b : Bool) {N : Mem}, Keep M N → one f (atS px py L) = (if b then 1 else 0) → A30_3 (some ⟨2 * j, 0, none⟩) (.func (.func k) #[] #[]) (n : Int) p0 p1 p2 p3 (i : Int) b N Q := by
    intro b N K h
    have hx := next N K
    rw [h] at hx
    refine w30_3 ?_
    cases b with
    | true =>
      refine cT rfl (w30_4 ?_)
      rw [i64w (x := (n : Int) + 1) (by omega), i64w (by omega)]
      exact hx
    | false =>
      refine cF rfl (w30_4 ?_)
      rw [i64w (by omega)]
      exact hx
  cases hat : atS px py L with
  | none =>
    refine ty rfl (ty rfl (ac0 rfl (ty rfl (ty rfl (ac0 rfl (stN (cs := zB.cs) (fb hf T2) rfl rfl rfl fun M3 K3 z3 b3 => cF rfl (fin false (T2.trans K3) (by rw [hat]; rfl))))))))
  | some b =>
    refine ty rfl (ty rfl (ac0 rfl (ty rfl (ty rfl (ac0 rfl (stN (cs := b.cs) (fb hf T2) rfl rfl rfl fun M3 K3 z3 b3 => cT rfl (ldA b3 rfl (ca (hF.2 b) (Cn.mono (hF.1 b M3 (fb hf (T2.trans K3))) ?_)))))))))
    rintro _ N4 ⟨rfl, K4⟩
    refine ty rfl (fin (f b) ((T2.trans K3).trans K4) ?_)
    rw [hat]
    rfl
theorem c30 (hF : AskF f k) (hf : M.floor ≤ M.nb.size) (G : Gr V M j jm t L) (hx : i64R x) (hy : i64R y) : Cn Try.prog 30 #[PtrB j, .int .i64 x, .int .i64 y, .func (.func k) #[] #[]] M fun v N => v = cntV f L t x y ∧ Keep M N := by
  obtain ⟨A, c, es, q, g1, _⟩ := G.ex
  have hm := G.may
  unfold Tl.may spanB at hm
  simp only [Bool.and_eq_true, decide_eq_true_eq] at hm
  have t8 : ∀ z : Int, z.tmod 8 = 0 ↔ z % 8 = 0 := fun z => tmod_eq (a := z) 8 (by decide)
  have bad : cntOk t x y = false → A30_1 (some ⟨2 * j, 0, none⟩) x y (.func (.func k) #[] #[]) true M fun v N => v = cntV f L t x y ∧ Keep M N := fun h => w30_1 (cT rfl ⟨by unfold cntV; rw [h]; rfl, .refl _⟩)
  refine w30_0 (Cn.eq (c24 g1) (ty rfl (cF rfl (cne (fun h => bad ?_) fun h1 => cne (fun h => bad ?_) fun h2 => Cn.eq (c26 g1 G.may hx hy) (ty rfl ?_)))))
  · unfold cntOk; rw [decide_eq_false (fun q => h ((t8 x).2 q.1))]; rfl
  · unfold cntOk; rw [decide_eq_false (fun q => h ((t8 y).2 q.2))]; rfl
  · cases hin : t.in x y with
    | false => exact bad (by unfold cntOk; rw [hin, Bool.and_false])
    | true =>
      have hok : cntOk t x y = true := by unfold cntOk; rw [hin, decide_eq_true ⟨(t8 x).1 h1, (t8 y).1 h2⟩]; rfl
      have hin' := of_decide_eq_true hin
      refine w30_1 (cF rfl ?_)
      rw [i64w (x := x - 1) (by omega), i64w (x := y - 1) (by omega)]
      refine e30_2 (i := 0) (n := 0) hF (by decide) (by decide) rfl hf G (by unfold i64R; omega) hy fun N1 K1 => ?_
      refine e30_2 (i := 1) hF (by decide) (by have := one_le f (atS (x - 1) y L); omega) rfl (fb hf K1) (G.keep K1) hx (by unfold i64R; omega) fun N2 K2 => ?_
      refine w30_2 (cF rfl ⟨?_, K1.trans K2⟩)
      unfold cntV cntS
      rw [hok, Nat.zero_add]
      rfl
theorem c11 (hf : M.floor ≤ M.nb.size) (G : Gr V M j jm t L) (hx : i64R x) (hy : i64R y) : Cn Try.prog 11 #[PtrB j, .int .i64 x, .int .i64 y] M fun v N => v = cntV Bk.sk L t x y ∧ Keep M N := by
  refine w11_0 (Cn.mono (c30 ⟨fun b M hf => c31 hf, fun b => rfl⟩ hf G hx hy) ?_)
  rintro _ N ⟨rfl, K⟩
  unfold cntV
  split
  · exact ty rfl (ty rfl (ty rfl ⟨rfl, K⟩))
  · exact ty rfl (ty rfl (ty rfl ⟨rfl, K⟩))
theorem c12 (hf : M.floor ≤ M.nb.size) (G : Gr V M j jm t L) (hx : i64R x) (hy : i64R y) : Cn Try.prog 12 #[PtrB j, .int .i64 x, .int .i64 y] M fun v N => v = cntV Bk.it L t x y ∧ Keep M N := by
  refine w12_0 (Cn.mono (c30 ⟨fun b M hf => c32 hf, fun b => rfl⟩ hf G hx hy) ?_)
  rintro _ N ⟨rfl, K⟩
  unfold cntV
  split
  · exact ty rfl (ty rfl (ty rfl ⟨rfl, K⟩))
  · exact ty rfl (ty rfl (ty rfl ⟨rfl, K⟩))
end
end Go.Zt

/- Layer 17: Put: the walk. -/
set_option linter.unusedSimpArgs false
set_option linter.unusedVariables false
set_option maxRecDepth 100000
namespace Go.Zt
open Go Go.Sim Go.Proofs Go.RowKit

section
variable {V : Nat → Prop} {M M0 N : Mem} {j jm jb : Nat} {t : Tl} {L : List Bk} {b : Bk}
theorem PutP.no (G : Gr V M j jm t L) (K : Keep M N) (hS : putS t L b = (2, L)) : PutP V M j jm t L b (.int .i64 2) N :=
  ⟨by rw [hS]; rfl, V, fun i h => .inl h, K.mono fun _ _ h => h.elim, by rw [hS]; exact G.keep K⟩
/-- The cells are looked at. -/
theorem e9_7 (hf : M.floor ≤ M.nb.size) (fl : ∀ i, V i ∨ i = j ∨ i = jm → M.floor ≤ i ∧ i < M.nb.size) (hb : b.ok t = true) (hL : L.length < 1000) (G0 : Gr V M j jm t L) (hjb : M.nb.size ≤ jb) {yi : Nat} (hy : yi < b.h.toNat / 8)
    (next : ∀ {M1 : Mem} {Ax : Option Addr} {cx : Nat}, Keep M M1 → M1.nb[jb]? = some (.cells b.cs 27) → Own (fun i => M.nb.size ≤ i ∧ i ≠ jb) M1 72 Ax (cx * 2) (Pls (preE b (yi + 1) 0)) → (∀ p ∈ preE b (yi + 1) 0, findE p (entL 0 L) 0 = none) →
      A9_6 (some ⟨2 * j, 0, none⟩) (some ⟨2 * jb, 0, none⟩) Ax (preE b (yi + 1) 0).length cx (b.y + 8 * ((yi + 1 : Nat) : Int)) M1 (PutP V M j jm t L b)) :
    ∀ (q xi : Nat) {M1 : Mem} {Ax : Option Addr} {cx : Nat}, xi + q = b.w.toNat / 8 → Keep M M1 → M1.nb[jb]? = some (.cells b.cs 27) → Own (fun i => M.nb.size ≤ i ∧ i ≠ jb) M1 72 Ax (cx * 2) (Pls (preE b yi xi)) → (∀ p ∈ preE b yi xi, findE p (entL 0 L) 0 = none) →
      A9_7 (some ⟨2 * j, 0, none⟩) (some ⟨2 * jb, 0, none⟩) Ax (preE b yi xi).length cx (b.y + 8 * (yi : Int)) (b.x + 8 * (xi : Int)) M1 (PutP V M j jm t L b)
  | 0, xi, M1, Ax, cx, hx, K, ab, O, hno => by
    obtain ⟨g1, g2, g3, g4⟩ := Bk.ok_iff.1 hb
    have hm := G0.may
    unfold Tl.may spanB at hm
    simp only [Bool.and_eq_true, decide_eq_true_eq] at hm
    have hxw : xi = b.w.toNat / 8 := by omega
    refine w9_7 (ad rfl (on (int_of (i := 0) ab rfl) (ad rfl (on (int_of (i := 0 + 2) ab rfl) ?_))))
    rw [i64w (x := b.x + b.w) (by omega)]
    refine cF (decide_eq_false (by omega)) ?_
    rw [i64w (by omega), show b.y + 8 * (yi : Int) + 8 = b.y + 8 * ((yi + 1 : Nat) : Int) by omega]
    rw [hxw, preE_y] at O hno ⊢
    exact next K ab O hno
  | q + 1, xi, M1, Ax, cx, hx, K, ab, O, hno => by
    obtain ⟨g1, g2, g3, g4⟩ := Bk.ok_iff.1 hb
    have hm := G0.may
    unfold Tl.may spanB at hm
    simp only [Bool.and_eq_true, decide_eq_true_eq] at hm
    have G1 := G0.keep K
    obtain ⟨A, c, es, k, q1, q2, q3, q4, q5⟩ := G1.ex
    have f1 := fb hf K
    refine w9_7 (ad rfl (on (int_of (i := 0) ab rfl) (ad rfl (on (int_of (i := 0 + 2) ab rfl) ?_))))
    rw [i64w (x := b.x + b.w) (by omega)]
    have rX : i64R (b.x + 8 * (xi : Int)) := by unfold i64R; omega
    have rY : i64R (b.y + 8 * (yi : Int)) := by unfold i64R; omega
    refine cT (decide_eq_true (by omega)) (ad rfl (on (x := .map (some (2 * jm))) (by rw [cell_of q1]; rfl) (cT (decide_eq_true f1) (Cn.mono (c27 f1 ⟨by omega, rX⟩ ⟨by omega, rY⟩) ?_))))
    rintro _ N ⟨rfl, K2⟩
    refine cT (gr_same q1 K2) (ty rfl (ty rfl (ty rfl ?_)))
    have hl := lookup_pl und61 key72 (a := (b.x + 8 * (xi : Int)) / 8) (b := (b.y + 8 * (yi : Int)) / 8) (at_keep q4 K2) q5 (by kernel_rfl)
    refine me hl (ty rfl (ty rfl (ty rfl ?_)))
    have e1 : (b.x + 8 * (xi : Int)) / 8 = b.x / 8 + (xi : Int) := by omega
    have e2 : (b.y + 8 * (yi : Int)) / 8 = b.y / 8 + (yi : Int) := by omega
    have hmem : (b.x / 8 + (xi : Int), b.y / 8 + (yi : Int)) ∈ ents b := mem_ents.2 ⟨yi, xi, hy, by omega, rfl, rfl⟩
    cases hfi : findE ((b.x + 8 * (xi : Int)) / 8, (b.y + 8 * (yi : Int)) / 8) (entL 0 L) 0 with
    | some r =>
      refine cT rfl (PutP.no G0 (K.trans K2) ?_)
      unfold putS
      have : (L.all fun a => !a.ovl b) = false := by
        cases ha : L.all fun a => !a.ovl b with
        | false => rfl
        | true =>
          have := (ovl_cells G0.ok hb).1 ha _ hmem
          rw [e1, e2] at hfi
          rw [this] at hfi
          cases hfi
      rw [this, Bool.and_false]
      rfl
    | none =>
      have f2 := fb hf (K.trans K2)
      refine cF rfl (Cn.mono (c27 f2 ⟨by omega, rX⟩ ⟨by omega, rY⟩) ?_)
      rintro _ N2 ⟨rfl, K3'⟩
      have K3 : Keep N N2 := K3'
      refine ty rfl (ty rfl (ty rfl ?_))
      have T3 := (K.trans K2).trans K3
      have lb := lt_of_at ab
      have X := Row.new N2 72 [.int .i64 ((b.x + 8 * (xi : Int)) / 8), .int .i64 ((b.y + 8 * (yi : Int)) / 8)]
      have K4 : Keep N2 (N2.new (.cells [Value.int .i64 ((b.x + 8 * (xi : Int)) / 8), Value.int .i64 ((b.y + 8 * (yi : Int)) / 8)].toArray 72)) := .new _ _
      have z4 := Mem.new_size N2 (.cells [Value.int .i64 ((b.x + 8 * (xi : Int)) / 8), Value.int .i64 ((b.y + 8 * (yi : Int)) / 8)].toArray 72)
      have z2 := K2.size
      have z3 := K3.size
      have zK := K.size
      have le := len_ents hb
      have ln : (preE b yi xi).length ≤ 64 := by
        have h8 : b.w.toNat / 8 ≤ 8 := by omega
        have h9 : b.h.toNat / 8 ≤ 8 := by omega
        have hyi : yi * (b.w.toNat / 8) + (b.w.toNat / 8) ≤ (b.h.toNat / 8) * (b.w.toNat / 8) := by
          rw [← Nat.succ_mul]; exact Nat.mul_le_mul_right _ hy
        have hh : (b.h.toNat / 8) * (b.w.toNat / 8) ≤ 8 * 8 := Nat.mul_le_mul h9 h8
        unfold preE rowE
        simp only [List.length_append, List.length_flatMap, List.length_map, List.length_range, List.map_const', List.sum_replicate_nat]
        omega
      obtain ⟨A', c', M2, p, C2, O2, h2⟩ := append_own elem69 (S := fun i => M.nb.size ≤ i ∧ i ≠ jb) (O.chg ((K2.trans K3).trans K4) fun _ _ _ h => h) (n := (preE b yi xi).length) (by rw [Pls_len]) X (k := 1) (cx := 1) rfl rfl (fun i hi => by
        rw [(T3.trans K4).floor]; have := hi.1; omega) ⟨by omega, by omega⟩ (by omega)
      refine me p (ty rfl ?_)
      have K5 : Keep M M2 := Keep.step (T3.trans K4) C2 fun i hi => hi.1
      have ab2 : M2.nb[jb]? = some (.cells b.cs 27) := at_chg (at_keep ab ((K2.trans K3).trans K4)) C2 fun h => h.2 rfl
      have ep : Pls (preE b yi (xi + 1)) = Pls (preE b yi xi) ++ [.int .i64 ((b.x + 8 * (xi : Int)) / 8), .int .i64 ((b.y + 8 * (yi : Int)) / 8)] := by
        rw [preE_x, e1, e2]; simp [Pls, List.flatMap_append]
      have el : (preE b yi (xi + 1)).length = (preE b yi xi).length + 1 := by rw [preE_x]; simp
      rw [i64w (by omega), show b.x + 8 * (xi : Int) + 8 = b.x + 8 * ((xi + 1 : Nat) : Int) by omega]
      have := e9_7 hf fl hb hL G0 hjb hy next q (xi + 1) (Ax := A') (cx := c') (by omega) K5 ab2 (by rw [ep]; exact O2) (fun p hp => by
        rw [preE_x] at hp
        rcases List.mem_append.1 hp with h | h
        · exact hno p h
        · rw [List.mem_singleton.1 h, ← e1, ← e2]; exact hfi)
      rw [el] at this
      exact this
theorem e9_6 (hf : M.floor ≤ M.nb.size) (fl : ∀ i, V i ∨ i = j ∨ i = jm → M.floor ≤ i ∧ i < M.nb.size) (hb : b.ok t = true) (hL : L.length < 1000) (G0 : Gr V M j jm t L) (hjb : M.nb.size ≤ jb) :
    ∀ (q yi : Nat) {M1 : Mem} {Ax : Option Addr} {cx : Nat}, yi + q = b.h.toNat / 8 → Keep M M1 → M1.nb[jb]? = some (.cells b.cs 27) → Own (fun i => M.nb.size ≤ i ∧ i ≠ jb) M1 72 Ax (cx * 2) (Pls (preE b yi 0)) → (∀ p ∈ preE b yi 0, findE p (entL 0 L) 0 = none) →
      A9_6 (some ⟨2 * j, 0, none⟩) (some ⟨2 * jb, 0, none⟩) Ax (preE b yi 0).length cx (b.y + 8 * (yi : Int)) M1 (PutP V M j jm t L b)
  | 0, yi, M1, Ax, cx, hy, K, ab, O, hno => by
    obtain ⟨g1, g2, g3, g4⟩ := Bk.ok_iff.1 hb
    have hm := G0.may
    unfold Tl.may spanB at hm
    simp only [Bool.and_eq_true, decide_eq_true_eq] at hm
    have hyh : yi = b.h.toNat / 8 := by omega
    refine w9_6 (ad rfl (on (int_of (i := 0 + 1) ab rfl) (ad rfl (on (int_of (i := 0 + 3) ab rfl) ?_))))
    rw [i64w (x := b.y + b.h) (by omega)]
    refine cF (decide_eq_false (by omega)) ?_
    rw [hyh, preE_end] at O hno ⊢
    have hall := (ovl_cells G0.ok hb).2 hno
    obtain ⟨A, c, es, k, q1, q2, q3, q4, q5⟩ := (G0.keep K).ex
    exact e9_8 (jb := jb) hf fl hb hL G0 hall (ents b).length 0 (by omega) (K.mono fun _ _ h => h.elim) ab hjb O.row (fun a ha => (O.in_ a ha).2.1) ⟨es, k, q4, by simpa using q5⟩
  | q + 1, yi, M1, Ax, cx, hy, K, ab, O, hno => by
    obtain ⟨g1, g2, g3, g4⟩ := Bk.ok_iff.1 hb
    have hm := G0.may
    unfold Tl.may spanB at hm
    simp only [Bool.and_eq_true, decide_eq_true_eq] at hm
    refine w9_6 (ad rfl (on (int_of (i := 0 + 1) ab rfl) (ad rfl (on (int_of (i := 0 + 3) ab rfl) ?_))))
    rw [i64w (x := b.y + b.h) (by omega)]
    refine cT (decide_eq_true (by omega)) (ad rfl (on (int_of (i := 0) ab rfl) ?_))
    have := e9_7 hf fl hb hL G0 hjb (yi := yi) (by omega) (fun {M2 Ax2 cx2} K2 ab2 O2 hno2 => e9_6 hf fl hb hL G0 hjb q (yi + 1) (by omega) K2 ab2 O2 hno2) (b.w.toNat / 8) 0 (by omega) K ab O hno
    rw [show b.x + 8 * ((0 : Nat) : Int) = b.x by omega] at this
    exact this
set_option maxHeartbeats 1000000 in
theorem c9 (hf : M.floor ≤ M.nb.size) (fl : ∀ i, V i ∨ i = j ∨ i = jm → M.floor ≤ i ∧ i < M.nb.size) (hL : L.length < 1000) (G : Gr V M j jm t L) (hr : i64R b.x ∧ i64R b.y ∧ i64R b.w ∧ i64R b.h) :
    Cn Try.prog 9 #[PtrB j, .agg b.cs] M (PutP V M j jm t L b) := by
  have a := Mem.new_at M (.cells b.cs 27)
  have K1 : Keep M (M.new (.cells b.cs 27)) := .new _ _
  have z1 := Mem.new_size M (.cells b.cs 27)
  refine w9_0 ?_
  show Cn Try.prog 24 _ (M.new (.cells b.cs 27)) _
  generalize M.new (.cells b.cs 27) = M1 at a K1 z1 ⊢
  have f1 := fb hf K1
  have hm := G.may
  unfold Tl.may spanB at hm
  simp only [Bool.and_eq_true, decide_eq_true_eq] at hm
  obtain ⟨A, c, es, k, g1, g2, g3, g4, g5⟩ := (G.keep K1).ex
  have no_ : b.ok t = false → putS t L b = (2, L) := fun h => by unfold putS; rw [h]; rfl
  have b5 : ∀ {N : Mem}, Keep M N → b.ok t = false → A9_5 (some ⟨2 * j, 0, none⟩) (some ⟨2 * M.nb.size, 0, none⟩) true N (PutP V M j jm t L b) := fun K h => w9_5 (cT rfl (PutP.no G K (no_ h)))
  have b4 : ∀ {N : Mem}, Keep M N → b.ok t = false → A9_4 (some ⟨2 * j, 0, none⟩) (some ⟨2 * M.nb.size, 0, none⟩) true N (PutP V M j jm t L b) := fun K h => w9_4 (cT rfl (b5 K h))
  have b3 : ∀ {N : Mem}, Keep M N → b.ok t = false → A9_3 (some ⟨2 * j, 0, none⟩) (some ⟨2 * M.nb.size, 0, none⟩) true N (PutP V M j jm t L b) := fun K h => w9_3 (cT rfl (b4 K h))
  have b2 : ∀ {N : Mem}, Keep M N → b.ok t = false → A9_2 (some ⟨2 * j, 0, none⟩) (some ⟨2 * M.nb.size, 0, none⟩) true N (PutP V M j jm t L b) := fun K h => w9_2 (cT rfl (b3 K h))
  have b1 : ∀ {N : Mem}, Keep M N → b.ok t = false → A9_1 (some ⟨2 * j, 0, none⟩) (some ⟨2 * M.nb.size, 0, none⟩) true N (PutP V M j jm t L b) := fun K h => w9_1 (cT rfl (b2 K h))
  have nok : (¬ (b.x % 8 = 0 ∧ b.y % 8 = 0) ∨ sideB b.w = false ∨ sideB b.h = false ∨ t.in b.x b.y = false ∨ t.in (b.x + b.w - 1) (b.y + b.h - 1) = false) → b.ok t = false := by
    intro h
    unfold Bk.ok
    rcases h with h | h | h | h | h
    · rw [decide_eq_false h]; rfl
    · rw [h]; simp
    · rw [h]; simp
    · rw [h]; simp
    · rw [h]; simp
  have t8 : ∀ z : Int, z.tmod 8 = 0 ↔ z % 8 = 0 := fun z => tmod_eq (a := z) 8 (by decide)
  refine Cn.eq (c24 g1) (ty rfl (cF rfl (on (int_of (i := 0) a rfl) (cne (fun h => b1 K1 (nok (.inl fun q => h ((t8 _).2 q.1)))) fun hx => on (int_of (i := 0 + 1) a rfl) ?_))))
  have hx8 := (t8 _).1 hx
  by_cases hy : b.y % 8 = 0
  · rw [show ((b.y.tmod 8) != 0) = false by rw [(t8 _).2 hy]; rfl]
    refine w9_1 (cF rfl (ad rfl (on (int_of (i := 0 + 2) a rfl) (Cn.mono (c25 f1) ?_))))
    rintro _ N1 ⟨rfl, K2⟩
    have T2 := K1.trans K2
    refine ty rfl ?_
    cases hw : sideB b.w with
    | false => exact b2 T2 (nok (.inr (.inl hw)))
    | true =>
      have a2 := at_keep a K2
      refine w9_2 (cF rfl (ad rfl (on (int_of (i := 0 + 3) a2 rfl) (Cn.mono (c25 (fb hf T2)) ?_))))
      rintro _ N2 ⟨rfl, K3⟩
      have T3 := T2.trans K3
      refine ty rfl ?_
      cases hh : sideB b.h with
      | false => exact b3 T3 (nok (.inr (.inr (.inl hh))))
      | true =>
        have a3 := at_keep a2 K3
        have g3' := at_keep (at_keep g1 K2) K3
        refine w9_3 (cF rfl (ad rfl (on (int_of (i := 0) a3 rfl) (ad rfl (on (int_of (i := 0 + 1) a3 rfl) (Cn.eq (c26 g3' G.may hr.1 hr.2.1) (ty rfl ?_)))))))
        cases hi : t.in b.x b.y with
        | false => exact b4 T3 (nok (.inr (.inr (.inr (.inl hi)))))
        | true =>
          have hi' := of_decide_eq_true hi
          have hw' := of_decide_eq_true hw
          have hh' := of_decide_eq_true hh
          have e1 : IntKind.i64.wrap (IntKind.i64.wrap (b.x + b.w) - 1) = b.x + b.w - 1 := by rw [i64w (x := b.x + b.w) (by omega), i64w (by omega)]
          have e2 : IntKind.i64.wrap (IntKind.i64.wrap (b.y + b.h) - 1) = b.y + b.h - 1 := by rw [i64w (x := b.y + b.h) (by omega), i64w (by omega)]
          refine w9_4 (cF rfl (ad rfl (on (int_of (i := 0) a3 rfl) (ad rfl (on (int_of (i := 0 + 2) a3 rfl) (ad rfl (on (int_of (i := 0 + 1) a3 rfl) (ad rfl (on (int_of (i := 0 + 3) a3 rfl) ?_)))))))))
          rw [e1, e2]
          refine Cn.eq (c26 g3' G.may (by unfold i64R; omega) (by unfold i64R; omega)) (ty rfl ?_)
          cases hi2 : t.in (b.x + b.w - 1) (b.y + b.h - 1) with
          | false => exact b5 T3 (nok (.inr (.inr (.inr (.inr hi2)))))
          | true =>
            have hb : b.ok t = true := by unfold Bk.ok; rw [decide_eq_true ⟨hx8, hy⟩, hw, hh, hi, hi2]; rfl
            refine w9_5 (cF rfl (ad rfl (on (int_of (i := 0 + 1) a3 rfl) ?_)))
            have := e9_6 (jb := M.nb.size) (b := b) hf fl hb hL G (Nat.le_refl _) (b.h.toNat / 8) 0 (Ax := none) (cx := 0) (by omega) T3 a3 (.inl ⟨rfl, by simp [preE, rowE], by simp⟩) (fun p hp => by simp [preE, rowE] at hp)
            rw [show b.y + 8 * ((0 : Nat) : Int) = b.y by omega] at this
            exact this
  · rw [show ((b.y.tmod 8) != 0) = true from bne_iff_ne.2 fun h => hy ((t8 b.y).1 h)]
    exact b1 K1 (nok (.inl fun q => hy q.2))
end
end Go.Zt
