/- Layer 17: Put. Printed by genQ.py. -/
import Derived.Test.YtamlmpeiamkllaaZpP
import Derived.Test.YtamlmpeiamkllaaZpD
set_option linter.unusedSimpArgs false
set_option linter.unusedVariables false
set_option maxRecDepth 100000
namespace Go.Zt
open Go Go.Sim Go.Proofs Go.RowKit

/-- A block stands in twenty-three cells. -/
def BkAt (M : Mem) (blk off : Nat) (b : Bk) : Prop := ∀ o, o < 23 → M.cell blk (off + o) = b.cs[o]?
theorem on23 {M : Mem} {blk off : Nat} {b : Bk} {P : Int → Int → Int → Int → Bool → Bool → Int → Int → Int → Int → Int → Int → Int → Bool → Int → Int → Int → Int → Int → Int → Int → Int → Bool → Prop} (hc : BkAt M blk off b) (k : P b.x b.y b.w b.h b.sk b.it b.q6 b.q7 b.q8 b.q9 b.q10 b.q11 b.q12 b.cp b.r0 b.r1 b.q16 b.v0 b.v1 b.v2 b.v3 b.q21 b.ob) : onS (M.intAt .i64 blk off) fun y0 => onS (M.intAt .i64 blk (off + 1)) fun y1 => onS (M.intAt .i64 blk (off + 2)) fun y2 => onS (M.intAt .i64 blk (off + 3)) fun y3 => onS (M.boolAt blk (off + 4)) fun y4 => onS (M.boolAt blk (off + 5)) fun y5 => onS (M.intAt .i64 blk (off + 6)) fun y6 => onS (M.intAt .i64 blk (off + 7)) fun y7 => onS (M.intAt .i64 blk (off + 8)) fun y8 => onS (M.intAt .i64 blk (off + 9)) fun y9 => onS (M.intAt .i64 blk (off + 10)) fun y10 => onS (M.intAt .i64 blk (off + 11)) fun y11 => onS (M.intAt .i64 blk (off + 12)) fun y12 => onS (M.boolAt blk (off + 13)) fun y13 => onS (M.intAt .i64 blk (off + 14)) fun y14 => onS (M.intAt .i64 blk (off + 15)) fun y15 => onS (M.intAt .i64 blk (off + 16)) fun y16 => onS (M.intAt .i64 blk (off + 17)) fun y17 => onS (M.intAt .i64 blk (off + 18)) fun y18 => onS (M.intAt .i64 blk (off + 19)) fun y19 => onS (M.intAt .i64 blk (off + 20)) fun y20 => onS (M.intAt .i64 blk (off + 21)) fun y21 => onS (M.boolAt blk (off + 22)) fun y22 => P y0 y1 y2 y3 y4 y5 y6 y7 y8 y9 y10 y11 y12 y13 y14 y15 y16 y17 y18 y19 y20 y21 y22 :=
  on (cell_int (hc 0 (by decide))) (on (cell_int (hc 1 (by decide))) (on (cell_int (hc 2 (by decide))) (on (cell_int (hc 3 (by decide))) (on (cell_bool (hc 4 (by decide))) (on (cell_bool (hc 5 (by decide))) (on (cell_int (hc 6 (by decide))) (on (cell_int (hc 7 (by decide))) (on (cell_int (hc 8 (by decide))) (on (cell_int (hc 9 (by decide))) (on (cell_int (hc 10 (by decide))) (on (cell_int (hc 11 (by decide))) (on (cell_int (hc 12 (by decide))) (on (cell_bool (hc 13 (by decide))) (on (cell_int (hc 14 (by decide))) (on (cell_int (hc 15 (by decide))) (on (cell_int (hc 16 (by decide))) (on (cell_int (hc 17 (by decide))) (on (cell_int (hc 18 (by decide))) (on (cell_int (hc 19 (by decide))) (on (cell_int (hc 20 (by decide))) (on (cell_int (hc 21 (by decide))) (on (cell_bool (hc 22 (by decide))) (k)))))))))))))))))))))))
theorem bkAt {M : Mem} {j : Nat} {b : Bk} {t : TypeId} (a : M.nb[j]? = some (.cells b.cs t)) : BkAt M (2 * j) 0 b := fun o ho => by
  rw [cell_of a, Nat.zero_add]
/-! ### Plain -/
def Bk.ovl (a b : Bk) : Bool := decide (a.x < b.x + b.w ∧ b.x < a.x + a.w ∧ a.y < b.y + b.h ∧ b.y < a.y + a.h)
def putS (t : Tl) (L : List Bk) (b : Bk) : Nat × List Bk := if b.ok t && L.all fun a => !a.ovl b then (0, L ++ [b]) else (2, L)
abbrev Pls (l : List (Int × Int)) : List Value := l.flatMap fun p => [.int .i64 p.1, .int .i64 p.2]
theorem Pls_len (l : List (Int × Int)) : (Pls l).length = l.length * 2 := by
  induction l with
  | nil => rfl
  | cons p l ih => simp only [Pls, List.flatMap_cons, List.length_append, List.length_cons, List.length_nil] at ih ⊢; omega
theorem Pls.at {M : Mem} {A : Option Addr} {l : List (Int × Int)} (hR : Row M A (Pls l)) {n i : Nat} {z : Int} (hz : z = (i : Int)) (hn : i < n) (hi : i < l.length) :
    ∃ a, idxA A n 2 z = some a ∧ M.intAt .i64 a.block a.off = some l[i].1 ∧ M.intAt .i64 a.block (a.off + 1) = some l[i].2 := by
  obtain ⟨a, h1, h2⟩ := Row.flat (f := fun p : Int × Int => [Value.int .i64 p.1, .int .i64 p.2]) (s := 2) (fun _ => rfl) hR (by decide) hz hn hi
  exact ⟨a, h1, cell_int (h2 0 (by decide)), cell_int (h2 1 (by decide))⟩
def rowE (b : Bk) (yi n : Nat) : List (Int × Int) := (List.range n).map fun (xi : Nat) => (b.x / 8 + ((xi : Nat) : Int), b.y / 8 + ((yi : Nat) : Int))
def preE (b : Bk) (yi xi : Nat) : List (Int × Int) := ((List.range yi).flatMap fun y => rowE b y (b.w.toNat / 8)) ++ rowE b yi xi
section
variable {t : Tl} {L : List Bk} {b : Bk} {x y : Int}
theorem preE_x (yi xi : Nat) : preE b yi (xi + 1) = preE b yi xi ++ [(b.x / 8 + (xi : Int), b.y / 8 + (yi : Int))] := by
  unfold preE rowE
  rw [range_map_succ, List.append_assoc]
theorem preE_y (yi : Nat) : preE b yi (b.w.toNat / 8) = preE b (yi + 1) 0 := by
  unfold preE
  rw [range_flat_succ]
  simp [rowE]
theorem preE_end : preE b (b.h.toNat / 8) 0 = ents b := by
  unfold preE ents rowE
  simp
theorem entL_app (b : Bk) : ∀ (L : List Bk) (n : Nat), entL n (L ++ [b]) = entL n L ++ (ents b).map fun p => (p, ((n + L.length : Nat) : Int))
  | [], n => by simp [entL]
  | a :: L, n => by
    simp only [List.cons_append, entL]
    rw [entL_app b L (n + 1), List.append_assoc]
    congr 4
    simp only [List.length_cons]
    funext p
    congr 2
    omega
theorem find_none (hL : ∀ b ∈ L, b.ok t = true) : findE (x / 8, y / 8) (entL 0 L) 0 = none ↔ atS x y L = none := by
  have h := findE_entL (t := t) (x := x) (y := y) L 0 0 hL
  constructor
  · intro hn
    rw [hn] at h
    cases hi : idxS x y L with
    | none => exact idx_none hi
    | some m => rw [hi] at h; cases h
  · intro hn
    cases hf : findE (x / 8, y / 8) (entL 0 L) 0 with
    | none => rfl
    | some r =>
      rw [hf] at h
      cases hi : idxS x y L with
      | none => rw [hi] at h; cases h
      | some m => obtain ⟨h1, h2⟩ := idx_some hi; rw [hn] at h2; cases h2
theorem mem_cell (hb : b.ok t = true) {p : Int × Int} (hp : p ∈ ents b) : ∃ X Y : Int, p = (X / 8, Y / 8) ∧ b.cov X Y = true := by
  obtain ⟨u, v⟩ := p
  obtain ⟨yi, xi, h1, h2, rfl, rfl⟩ := mem_ents.1 hp
  obtain ⟨g1, g2, g3, _⟩ := Bk.ok_iff.1 hb
  refine ⟨b.x + 8 * (xi : Int), b.y + 8 * (yi : Int), by simp only [Prod.mk.injEq]; omega, ?_⟩
  unfold Bk.cov
  exact decide_eq_true (by omega)
theorem ovl_cells (hL : ∀ b ∈ L, b.ok t = true) (hb : b.ok t = true) : (L.all fun a => !a.ovl b) = true ↔ ∀ p ∈ ents b, findE p (entL 0 L) 0 = none := by
  rw [List.all_eq_true]
  constructor
  · intro h p hp
    obtain ⟨X, Y, rfl, hc⟩ := mem_cell hb hp
    rw [find_none hL]
    cases ha : atS X Y L with
    | none => rfl
    | some a =>
      exfalso
      obtain ⟨h1, h2⟩ := atS_mem ha
      have := h a h1
      unfold Bk.cov at hc h2
      have hc := of_decide_eq_true hc
      have h2 := of_decide_eq_true h2
      unfold Bk.ovl at this
      rw [decide_eq_true (by omega)] at this
      cases this
  · intro h a ha
    cases ho : a.ovl b with
    | false => rfl
    | true =>
      exfalso
      unfold Bk.ovl at ho
      have ho := of_decide_eq_true ho
      have g1 := Bk.ok_iff.1 (hL a ha)
      have g2 := Bk.ok_iff.1 hb
      have cb : b.cov (max a.x b.x) (max a.y b.y) = true := by unfold Bk.cov; exact decide_eq_true (by omega)
      have ca : a.cov (max a.x b.x) (max a.y b.y) = true := by unfold Bk.cov; exact decide_eq_true (by omega)
      have := h _ ((cov_ents hb).2 cb)
      rw [find_none hL] at this
      have key : ∀ {L : List Bk}, a ∈ L → atS (max a.x b.x) (max a.y b.y) L = none → False := by
        intro L
        induction L with
        | nil => intro h _; cases h
        | cons c L ih =>
          intro h hn
          unfold atS at hn
          split at hn
          · cases hn
          · rename_i hc
            rcases List.mem_cons.1 h with rfl | h
            · exact hc ca
            · exact ih h hn
      exact key ha this
theorem nodup_rowE (yi n : Nat) : (rowE b yi n).Nodup := by
  unfold rowE List.Nodup
  rw [List.pairwise_map]
  refine (List.pairwise_lt_range (n := n)).imp fun {i j} h e => ?_
  simp only [Prod.mk.injEq] at e
  omega
theorem nodup_ents : (ents b).Nodup := by
  have e : ents b = (List.range (b.h.toNat / 8)).flatMap fun y => rowE b y (b.w.toNat / 8) := rfl
  rw [e]
  unfold List.Nodup
  rw [List.pairwise_flatMap]
  refine ⟨fun y _ => nodup_rowE y _, (List.pairwise_lt_range (n := b.h.toNat / 8)).imp fun {i j} h p hp q hq e => ?_⟩
  unfold rowE at hp hq
  obtain ⟨u, _, rfl⟩ := List.mem_map.1 hp
  obtain ⟨v, _, rfl⟩ := List.mem_map.1 hq
  simp only [Prod.mk.injEq] at e
  omega
theorem len_ents (hb : b.ok t = true) : (ents b).length ≤ 64 := by
  obtain ⟨_, h2, h3, _⟩ := Bk.ok_iff.1 hb
  unfold ents
  rw [List.length_flatMap]
  simp only [List.length_map, List.length_range, List.map_const', List.sum_replicate_nat]
  rcases h2 with h | h | h | h <;> rcases h3 with g | g | g | g <;> rw [h, g] <;> decide
theorem findE_none_app {k : Int × Int} {A B : Ents} {i : Nat} (h : findE k A i = none) (h2 : ∀ i, findE k B i = none) : findE k (A ++ B) i = none := by
  rw [findE_app, h, h2]; rfl
theorem findE_map_none {k : Int × Int} {n : Int} {l : List (Int × Int)} (h : k ∉ l) (i : Nat) : findE k (l.map fun p => (p, n)) i = none := by
  have := findE_map (k := k) (n := n) l i
  rw [if_neg h] at this
  simpa using this
theorem findE_shift {k : Int × Int} : ∀ {A : Ents} {i i' : Nat}, findE k A i = none → findE k A i' = none
  | [], _, _, _ => rfl
  | e :: A, i, i', h => by
    unfold findE at h ⊢
    split at h
    · cases h
    · rename_i hne
      rw [if_neg hne]
      exact findE_shift h
end
theorem elem69 : ElemS Try.prog 69 72 2 16 (.agg #[.int .i64 0, .int .i64 0]) := ⟨by kernel_rfl, by kernel_rfl, by kernel_rfl, by kernel_rfl, by decide⟩
/-- What Put tells. -/
def PutP (V : Nat → Prop) (M : Mem) (j jm : Nat) (t : Tl) (L : List Bk) (b : Bk) : Value → Mem → Prop := fun v N =>
  v = .int .i64 ((putS t L b).1 : Nat) ∧ ∃ V', (∀ i, V' i → V i ∨ (M.nb.size ≤ i ∧ i < N.nb.size)) ∧ Chg (fun i => V i ∨ i = j ∨ i = jm) M N ∧ Gr V' N j jm t (putS t L b).2
section
variable {V : Nat → Prop} {M M1 N : Mem} {j jm jb : Nat} {t : Tl} {L : List Bk} {b : Bk}
/-- The block is noted. -/
theorem e9_8 (hf : M.floor ≤ M.nb.size) (fl : ∀ i, V i ∨ i = j ∨ i = jm → M.floor ≤ i ∧ i < M.nb.size) (hb : b.ok t = true) (hL : L.length < 1000) (G0 : Gr V M j jm t L) (hall : (L.all fun a => !a.ovl b) = true) {Ax : Option Addr} {cx : Nat} :
    ∀ (q i : Nat) {M1 : Mem}, i + q = (ents b).length → Chg (· = jm) M M1 → M1.nb[jb]? = some (.cells b.cs 27) → M.nb.size ≤ jb → Row M1 Ax (Pls (ents b)) → (∀ a, Ax = some a → M.nb.size ≤ a.block / 2) →
      (∃ es k, M1.nb[jm]? = some (.map es k) ∧ EntR es.toList (entL 0 L ++ ((ents b).take i).map fun p => (p, (L.length : Int)))) →
      A9_8 (some ⟨2 * j, 0, none⟩) (some ⟨2 * jb, 0, none⟩) Ax (ents b).length cx ((ents b).length : Int) (i : Int) M1 (PutP V M j jm t L b)
  | 0, i, M1, hi, C, ab, hjb, R, hA, ⟨es, k, m1, m2⟩ => by
    obtain ⟨A, c, es0, k0, g1, g2, g3, g4, g5⟩ := G0.ex
    have g1' := at_chg g1 C G0.out.2.2
    have g2' : Own V M1 27 A (c * 23) (Bks L) := g2.chg C fun i hi hv h => G0.out.2.1 (h ▸ hv)
    have z1 := C.size
    refine w9_8 (cF (decide_eq_false (by omega)) (ad rfl (on (sl_of (i := 0 + 5) g1' rfl) (ad rfl (on23 (bkAt ab) ?_)))))
    have X := Row.new M1 27 b.cs.toList
    have K2 : Keep M1 (M1.new (.cells b.cs.toList.toArray 27)) := .new _ _
    have z2 := Mem.new_size M1 (.cells b.cs.toList.toArray 27)
    have lb : b.cs.toList.length = 1 * 23 := rfl
    have fM1 : M1.floor = M.floor := C.floor
    obtain ⟨A', c', M2, p, C2, O2, h2⟩ := append_own elem43 (S := fun i => V i ∨ M1.nb.size ≤ i) ((g2'.chg K2 fun _ _ _ h => h).mono fun i _ h => .inl h) (n := L.length) (by rw [Bks_len]; omega) X (k := 1) (cx := 1) lb rfl (fun i hi => by
      rw [K2.floor, fM1]
      rcases hi with h | h
      · exact (fl i (.inl h)).1
      · omega) (.inr (by rw [z2]; omega)) (by omega)
    refine me p (ty rfl (ad rfl ?_))
    have C12 : Chg (fun i => V i ∨ M1.nb.size ≤ i) M1 M2 := (K2.mono fun _ _ h => h.elim).trans C2
    have lj := lt_of_at g1'
    have lm := lt_of_at m1
    have g1'' := at_chg g1' C12 fun h => h.elim G0.out.1 fun h => by omega
    have m1'' := at_chg m1 C12 fun h => h.elim G0.out.2.1 fun h => by omega
    have z12 := C12.size
    obtain ⟨M3, p3, C3, z3, a3⟩ := put1 5 (.slice A' (L.length + 1) c') g1'' (by rw [C12.floor, fM1]; exact (fl j (.inr (.inl rfl))).1) (show 5 < 7 by decide) rfl
    refine pt p3 ?_
    have hS : putS t L b = (0, L ++ [b]) := by unfold putS; rw [hb, hall]; rfl
    have CC : Chg (fun i => V i ∨ i = j ∨ i = jm) M M3 := by
      refine ((C.mono fun i _ h => .inr (.inr h)).trans ⟨C12.base, C12.floor, C12.size, fun i hi hn => C12.same i hi fun h => ?_⟩).trans (C3.mono fun i _ h => .inr (.inl h))
      rcases h with h | h
      · exact hn (.inl h)
      · omega
    refine ⟨by rw [hS]; rfl, fun i => V i ∨ (M1.nb.size ≤ i ∧ i < M2.nb.size), fun i hi => hi.imp id fun q => by omega, CC, ?_⟩
    rw [hS]
    have ll : (L ++ [b]).length = L.length + 1 := by simp
    refine ⟨G0.may, ⟨fun h => h.elim G0.out.1 fun q => by omega, fun h => h.elim G0.out.2.1 fun q => by omega, G0.out.2.2⟩, fun a ha => ?_, by rw [ll]; omega, A', c', es, k, ?_, ?_, by rw [ll]; exact h2, at_chg m1'' C3 fun h => G0.out.2.2 h.symm, ?_⟩
    · rcases List.mem_append.1 ha with h | h
      · exact G0.ok a h
      · rw [List.mem_singleton.1 h]; exact hb
    · rw [ll]; exact a3
    · have e : Bks (L ++ [b]) = Bks L ++ b.cs.toList := by simp [Bks, List.flatMap_append]
      rw [e]
      exact (O2.mono fun i hi h => h.imp id fun q => ⟨q, hi⟩).chg C3 fun i _ hv h => by
        subst h
        rcases hv with hv | hv
        · exact G0.out.1 hv
        · omega
    · rw [entL_app]
      rw [List.take_of_length_le (by omega)] at m2
      simpa using m2
  | q + 1, i, M1, hi, C, ab, hjb, R, hA, ⟨es, k, m1, m2⟩ => by
    obtain ⟨A, c, es0, k0, g1, g2, g3, g4, g5⟩ := G0.ex
    have hlt : i < (ents b).length := by omega
    obtain ⟨a, e1, e2, e3⟩ := Pls.at R (n := (ents b).length) (i := i) (z := (i : Int)) rfl hlt hlt
    have z1 := C.size
    have fM1 : M1.floor = M.floor := C.floor
    refine w9_8 (cT (decide_eq_true (by omega)) (ix e1 (on e2 (on e3 (stN (cs := #[.int .i64 (ents b)[i].1, .int .i64 (ents b)[i].2]) (by rw [fM1]; omega) rfl rfl rfl fun M2 K2 z2 b2 => ad rfl ?_)))))
    have g1' := at_keep (at_chg g1 C G0.out.2.2) K2
    have m1' := at_keep m1 K2
    refine on (x := .map (some (2 * jm))) (by rw [cell_of g1']; rfl) (on (int_of (i := 0) b2 rfl) (on (int_of (i := 0 + 1) b2 rfl) (ad rfl (on (sl_of (i := 0 + 5) g1' rfl) ?_))))
    have hmem : (ents b)[i] ∈ ents b := List.getElem_mem hlt
    have hno := (ovl_cells G0.ok hb).1 hall _ hmem
    have hnew : findE ((ents b)[i].1, (ents b)[i].2) (entL 0 L ++ ((ents b).take i).map fun p => (p, (L.length : Int))) 0 = none := by
      refine findE_none_app hno fun i' => findE_map_none (fun hm => ?_) i'
      obtain ⟨u, hu, he⟩ := List.getElem_of_mem hm
      have hu' : u < i := by simpa using Nat.lt_of_lt_of_le hu (by simp; omega)
      rw [List.getElem_take] at he
      have hd := (List.nodup_iff_pairwise_ne.1 (nodup_ents (b := b)))
      exact (List.pairwise_iff_getElem.1 hd u i (by omega) hlt hu') he
    obtain ⟨es', hp, hE⟩ := mapPut_pl und61 key72 (x := (L.length : Int)) m1' (by rw [K2.floor, fM1]; exact (fl jm (.inr (.inr rfl))).1) m2 hnew
    refine me hp ?_
    have lm := lt_of_at m1'
    have C3 := upd_chg (M := M2) (S := (· = jm)) (b := .map es' (k + 1)) (j := jm) rfl
    have u3 := upd_at (M := M2) (b := .map es' (k + 1)) lm
    show A9_8 _ _ _ _ _ _ _ (M2.upd jm (.map es' (k + 1))) _
    generalize M2.upd jm (.map es' (k + 1)) = M3 at C3 u3 ⊢
    rw [i64w (by have := len_ents hb; omega)]
    have hjm := (fl jm (.inr (.inr rfl))).2
    exact e9_8 hf fl hb hL G0 hall q (i + 1) (by omega) ((C.trans (K2.mono fun _ _ h => h.elim)).trans C3) (at_chg (at_keep ab K2) C3 (by omega)) hjb ((R.keep K2).chg C3 fun a ha => .inr (by have := hA a ha; omega)) hA ⟨es', k + 1, u3, by
      have e : (ents b).take (i + 1) = (ents b).take i ++ [(ents b)[i]] := by rw [List.take_succ_eq_append_getElem hlt]
      rw [e, List.map_append, ← List.append_assoc]
      exact hE⟩
end
end Go.Zt
