/- Layer 17: cells of blocks; the program's grid in memory; At. -/
import Derived.Test.YtamlmpeiamkllaaZpO
import Derived.Test.YtamlmpeiamkllaaZpC
set_option linter.unusedSimpArgs false
set_option linter.unusedVariables false
set_option maxRecDepth 100000
namespace Go.Zt
open Go Go.Sim Go.Proofs Go.RowKit

/-! ### Plain -/
def Bk.cov (b : Bk) (x y : Int) : Bool := decide (b.x ≤ x ∧ x < b.x + b.w ∧ b.y ≤ y ∧ y < b.y + b.h)
def Bk.ok (b : Bk) (t : Tl) : Bool := decide (b.x % 8 = 0 ∧ b.y % 8 = 0) && sideB b.w && sideB b.h && t.in b.x b.y && t.in (b.x + b.w - 1) (b.y + b.h - 1)
theorem Bk.ok_iff {b : Bk} {t : Tl} : b.ok t = true ↔ (b.x % 8 = 0 ∧ b.y % 8 = 0) ∧ (b.w = 8 ∨ b.w = 16 ∨ b.w = 32 ∨ b.w = 64) ∧ (b.h = 8 ∨ b.h = 16 ∨ b.h = 32 ∨ b.h = 64) ∧ (t.x ≤ b.x ∧ b.x + b.w ≤ t.x + t.w ∧ t.y ≤ b.y ∧ b.y + b.h ≤ t.y + t.h) := by
  unfold Bk.ok sideB Tl.in
  simp only [Bool.and_eq_true, decide_eq_true_eq]
  constructor
  · rintro ⟨⟨⟨⟨h1, h2⟩, h3⟩, h4⟩, h5⟩; exact ⟨h1, h2, h3, by omega⟩
  · rintro ⟨h1, h2, h3, h4⟩; exact ⟨⟨⟨⟨h1, h2⟩, h3⟩, by omega⟩, by omega⟩
def ents (b : Bk) : List (Int × Int) := (List.range (b.h.toNat / 8)).flatMap fun (yi : Nat) => (List.range (b.w.toNat / 8)).map fun (xi : Nat) => (b.x / 8 + ((xi : Nat) : Int), b.y / 8 + ((yi : Nat) : Int))
def entL : Nat → List Bk → Ents
  | _, [] => []
  | n, b :: L => (ents b).map (fun p => (p, (n : Int))) ++ entL (n + 1) L
def idxS (x y : Int) : List Bk → Option Nat
  | [] => none
  | b :: L => if b.cov x y then some 0 else (idxS x y L).map (· + 1)
/-- The block at a place. -/
def atS (x y : Int) : List Bk → Option Bk
  | [] => none
  | b :: L => if b.cov x y then some b else atS x y L
section
variable {t : Tl} {x y : Int} {L : List Bk} {b : Bk}
theorem mem_ents {p q : Int} : (p, q) ∈ ents b ↔ ∃ yi xi : Nat, yi < b.h.toNat / 8 ∧ xi < b.w.toNat / 8 ∧ p = b.x / 8 + (xi : Int) ∧ q = b.y / 8 + (yi : Int) := by
  unfold ents
  simp only [List.mem_flatMap, List.mem_range, List.mem_map, Prod.mk.injEq]
  constructor
  · rintro ⟨yi, h1, xi, h2, h3, h4⟩; exact ⟨yi, xi, h1, h2, h3.symm, h4.symm⟩
  · rintro ⟨yi, xi, h1, h2, h3, h4⟩; exact ⟨yi, h1, xi, h2, h3.symm, h4.symm⟩
theorem cov_ents (hb : b.ok t = true) : (x / 8, y / 8) ∈ ents b ↔ b.cov x y = true := by
  obtain ⟨h1, h2, h3, _⟩ := Bk.ok_iff.1 hb
  rw [mem_ents]
  unfold Bk.cov
  rw [decide_eq_true_eq]
  constructor
  · rintro ⟨yi, xi, g1, g2, g3, g4⟩; omega
  · intro h
    exact ⟨(y / 8 - b.y / 8).toNat, (x / 8 - b.x / 8).toNat, by omega, by omega, by omega, by omega⟩
theorem findE_app {k : Int × Int} : ∀ (A B : Ents) (i : Nat), findE k (A ++ B) i = (findE k A i).or (findE k B (i + A.length))
  | [], B, i => by simp [findE]
  | e :: A, B, i => by
    simp only [List.cons_append, findE]
    split
    · rfl
    · rw [findE_app A B (i + 1)]; simp only [List.length_cons]; congr 2; omega
theorem findE_map {k : Int × Int} {n : Int} : ∀ (l : List (Int × Int)) (i : Nat), (findE k (l.map fun p => (p, n)) i).map (·.2) = if k ∈ l then some n else none
  | [], i => by simp [findE]
  | e :: l, i => by
    simp only [List.map_cons, findE]
    split
    · rename_i h; simp [h]
    · rename_i h
      rw [findE_map l (i + 1)]
      simp [h]
theorem or_map {α β : Type} (f : α → β) (a b : Option α) : (a.or b).map f = (a.map f).or (b.map f) := by cases a <;> rfl
theorem findE_entL : ∀ (L : List Bk) (n i : Nat), (∀ b ∈ L, b.ok t = true) → (findE (x / 8, y / 8) (entL n L) i).map (·.2) = (idxS x y L).map fun m => ((n + m : Nat) : Int)
  | [], n, i, _ => rfl
  | b :: L, n, i, h => by
    have hb := cov_ents (x := x) (y := y) (h b (List.mem_cons_self ..))
    simp only [entL, idxS]
    rw [findE_app, or_map, findE_map, findE_entL L (n + 1) _ fun c hc => h c (List.mem_cons_of_mem _ hc)]
    cases hc : b.cov x y with
    | true => rw [if_pos (hb.2 hc)]; simp
    | false =>
      rw [if_neg (fun q => by rw [hb.1 q] at hc; cases hc)]
      cases idxS x y L with
      | none => rfl
      | some m => simp; omega
theorem idx_none : ∀ {L : List Bk}, idxS x y L = none → atS x y L = none
  | [], _ => rfl
  | b :: L, h => by
    unfold idxS at h
    unfold atS
    split at h
    · cases h
    · rename_i hc
      rw [if_neg hc]
      exact idx_none (by simpa using h)
theorem idx_some : ∀ {L : List Bk} {m : Nat}, idxS x y L = some m → ∃ h : m < L.length, atS x y L = some L[m]
  | [], m, h => by cases h
  | b :: L, m, h => by
    unfold idxS at h
    unfold atS
    split at h
    · rename_i hc
      obtain rfl := Option.some.inj h
      exact ⟨by simp, by rw [if_pos hc]; rfl⟩
    · rename_i hc
      obtain ⟨k, hk, rfl⟩ := Option.map_eq_some_iff.1 h
      obtain ⟨h1, h2⟩ := idx_some hk
      exact ⟨by simp; omega, by rw [if_neg hc, h2]; rfl⟩
theorem atS_mem : ∀ {L : List Bk} {c : Bk}, atS x y L = some c → c ∈ L ∧ c.cov x y = true
  | [], c, h => by cases h
  | b :: L, c, h => by
    unfold atS at h
    split at h
    · rename_i hc; obtain rfl := Option.some.inj h; exact ⟨List.mem_cons_self .., hc⟩
    · obtain ⟨h1, h2⟩ := atS_mem h; exact ⟨List.mem_cons_of_mem _ h1, h2⟩
theorem atS_in (hL : ∀ b ∈ L, b.ok t = true) (h : t.in x y = false) : atS x y L = none := by
  cases hc : atS x y L with
  | none => rfl
  | some c =>
    obtain ⟨h1, h2⟩ := atS_mem hc
    have h3 := Bk.ok_iff.1 (hL c h1)
    unfold Bk.cov at h2
    have h2 := of_decide_eq_true h2
    unfold Tl.in at h
    have h := of_decide_eq_false h
    omega
end
/-! ### Blocks in rows -/
theorem Bks_len (L : List Bk) : (Bks L).length = 23 * L.length := by
  induction L with
  | nil => rfl
  | cons x L ih => simp only [Bks, List.flatMap_cons, List.length_append, List.length_cons] at ih ⊢; rw [ih]; show 23 + _ = _; omega
theorem Bks_at {L : List Bk} {i : Nat} (hi : i < L.length) : ((Bks L).drop (i * 23)).take 23 = L[i].cs.toList := by
  induction L generalizing i with
  | nil => simp at hi
  | cons b L ih =>
    have lb : b.cs.toList.length = 23 := rfl
    cases i with
    | zero =>
      simp only [Bks, List.flatMap_cons, Nat.zero_mul, List.drop_zero, List.getElem_cons_zero]
      rw [List.take_append_of_le_length (by rw [lb]; exact Nat.le_refl _), List.take_of_length_le (by rw [lb]; exact Nat.le_refl _)]
    | succ i =>
      simp only [Bks, List.flatMap_cons, List.getElem_cons_succ]
      rw [List.drop_append, lb, List.drop_of_length_le (by rw [lb]; omega), List.nil_append, show (i + 1) * 23 - 23 = i * 23 by omega]
      exact ih (by simpa using hi)
theorem Bks_one (L : List Bk) : (Bks L).all oneCell = true := by
  induction L with
  | nil => rfl
  | cons x L ih => simp only [Bks, List.flatMap_cons, List.all_append, Bool.and_eq_true] at ih ⊢; exact ⟨rfl, ih⟩
theorem Bks.elt {M : Mem} {A : Option Addr} {L : List Bk} (hR : Row M A (Bks L)) {n i : Nat} {z : Int} (hz : z = (i : Int)) (hn : i < n) (hi : i < L.length) {tys : List Sc} {p : List Value → Prop} (hf : fitL tys L[i].cs.toList = true) (k : p L[i].cs.toList) :
    ∃ a, idxA A n 23 z = some a ∧ ldP tys M a.block a.off p := by
  have hl := Bks_len L
  obtain ⟨a, h1, h2⟩ := ldR (p := p) hR (s := 23) hz hn (by decide) (by omega) (tys := tys)
  rw [Bks_at hi] at h2
  exact ⟨a, h1, h2 hf k⟩
theorem elem43 : ElemS Try.prog 43 27 23 176 (.agg zB.cs) := ⟨by kernel_rfl, by kernel_rfl, by kernel_rfl, by kernel_rfl, by decide⟩
/-! ### The same block -/
theorem eqV_int {k : IntKind} {x : Int} : eqV (.int k x) (.int k x) = true := by simp [eqV]
theorem eqV_bool {x : Bool} : eqV (.bool x) (.bool x) = true := by simp [eqV]
theorem eqV_sl {A : Option Addr} {l c : Nat} : eqV (.slice A l c) (.slice A l c) = true := by cases A <;> simp [eqV]
theorem eqV_map {A : Option Nat} : eqV (.map A) (.map A) = true := by cases A <;> simp [eqV]
theorem sameB_at {M N : Mem} {j : Nat} {c : Array Value} {t : TypeId} (a : M.nb[j]? = some (.cells c t)) (a' : N.nb[j]? = some (.cells c t)) (hs : eqVs c.toList c.toList = true) : sameB M N (2 * j) = true := by
  unfold sameB
  rw [if_neg (by omega), show 2 * j / 2 = j by omega, a, a']
  simp [hs]
theorem sameB_odd {M N : Mem} {b : Nat} (h : b % 2 = 1) : sameB M N b = true := by unfold sameB; rw [if_pos h]
/-! ### The grid -/
structure Gr (V : Nat → Prop) (M : Mem) (j jm : Nat) (t : Tl) (L : List Bk) : Prop where
  may : t.may = true
  out : ¬ V j ∧ ¬ V jm ∧ j ≠ jm
  ok : ∀ b ∈ L, b.ok t = true
  len : L.length ≤ 1000
  ex : ∃ A c es k, GrAt M j t A L.length c jm ∧ Own V M 27 A (c * 23) (Bks L) ∧ L.length ≤ c ∧ M.nb[jm]? = some (.map es k) ∧ EntR es.toList (entL 0 L)
theorem Gr.chg {V T : Nat → Prop} {M N : Mem} {j jm : Nat} {t : Tl} {L : List Bk} (G : Gr V M j jm t L) (C : Chg T M N) (hT : ∀ i, i < M.nb.size → V i ∨ i = j ∨ i = jm → ¬ T i) : Gr V N j jm t L := by
  obtain ⟨A, c, es, k, h1, h2, h3, h4, h5⟩ := G.ex
  exact ⟨G.may, G.out, G.ok, G.len, A, c, es, k, at_chg h1 C (hT j (lt_of_at h1) (.inr (.inl rfl))), h2.chg C fun i hi hv => hT i hi (.inl hv), h3, at_chg h4 C (hT jm (lt_of_at h4) (.inr (.inr rfl))), h5⟩
theorem Gr.keep {V : Nat → Prop} {M N : Mem} {j jm : Nat} {t : Tl} {L : List Bk} (G : Gr V M j jm t L) (K : Keep M N) : Gr V N j jm t L := G.chg K fun _ _ _ h => h
theorem key72 : KeyOk Try.prog 72 := KeyOk.of (k := 3) (by kernel_rfl) (by decide) (by kernel_rfl) (fun a b => by kernel_rfl) fun a b e => by cases e <;> kernel_rfl
theorem und61 : Try.prog.underlying 61 = some (.map 72 3) := by kernel_rfl
def atV : Option Bk → Value
  | none => .tuple #[.agg zB.cs, .bool false]
  | some b => .tuple #[.agg b.cs, .bool true]
section
variable {V : Nat → Prop} {M : Mem} {j jm : Nat} {t : Tl} {L : List Bk} {x y : Int}
theorem gr_same {M N : Mem} {A : Option Addr} {n c : Nat} (g : GrAt M j t A n c jm) (K : Keep M N) : sameB M N (2 * j) = true :=
  sameB_at g (at_keep g K) (by simp only [eqVs, eqV_int, eqV_bool, eqV_sl, eqV_map, Bool.and_true])
set_option maxHeartbeats 1000000 in
theorem c14 (hf : M.floor ≤ M.nb.size) (G : Gr V M j jm t L) (hx : i64R x) (hy : i64R y) : Cn Try.prog 14 #[PtrB j, .int .i64 x, .int .i64 y] M fun v N => v = atV (atS x y L) ∧ Keep M N := by
  have a := Mem.new_at M (.cells zB.cs 27)
  have K1 : Keep M (M.new (.cells zB.cs 27)) := .new _ _
  have z1 := Mem.new_size M (.cells zB.cs 27)
  refine w14_0 ?_
  show Cn Try.prog 24 _ (M.new (.cells zB.cs 27)) _
  generalize M.new (.cells zB.cs 27) = M1 at a K1 z1 ⊢
  have f1 := fb hf K1
  have G1 := G.keep K1
  obtain ⟨A, c, es, k, g1, g2, g3, g4, g5⟩ := G1.ex
  have fl : ∀ {N : Mem}, Keep M1 N → N.floor ≤ M.nb.size := fun K => by rw [K.floor, K1.floor]; exact hf
  have none_ : atS x y L = none → ∀ {N : Mem}, Keep M1 N → stP (some 23) zB.cs N (2 * M.nb.size) 0 fun M6' => adS (some (⟨2 * M.nb.size, 0, none⟩ : Addr)) fun a7' => ldP tyZpC0 M6' a7'.block a7'.off fun vs8' => (fun v N => v = atV (atS x y L) ∧ Keep M N) (.tuple #[.agg vs8'.toArray, .bool false]) M6' := by
    intro h N K
    refine stA (cs := zB.cs) (at_keep a K) (fl K) rfl rfl rfl fun M6 C6 z6 b6 => ad rfl (ldA b6 rfl ⟨by rw [h]; rfl, Keep.step (K1.trans K) C6 fun i hi => by omega⟩)
  refine Cn.eq (c24 g1) (ty rfl (cF rfl (Cn.eq (c26 g1 G.may hx hy) (ty rfl (w14_1 ?_)))))
  cases hin : t.in x y with
  | false => exact cT rfl (ad rfl (none_ (atS_in G.ok hin) (.refl _)))
  | true =>
    have hm := G.may
    unfold Tl.may spanB at hm
    simp only [Bool.and_eq_true, decide_eq_true_eq] at hm
    have hin' := of_decide_eq_true hin
    refine cF rfl (ad rfl (on (x := .map (some (2 * jm))) (by rw [cell_of g1]; rfl) (cT (decide_eq_true f1) (Cn.mono (c27 f1 ⟨by omega, hx⟩ ⟨by omega, hy⟩) ?_))))
    rintro _ N ⟨rfl, K2⟩
    refine cT (gr_same g1 K2) (ty rfl (ty rfl (ty rfl ?_)))
    have hl := lookup_pl und61 key72 (a := x / 8) (b := y / 8) (at_keep g4 K2) g5 (by kernel_rfl)
    refine me hl (ty rfl (ty rfl (ty rfl ?_)))
    have hfd := findE_entL (t := t) (x := x) (y := y) L 0 0 G.ok
    cases hi : findE (x / 8, y / 8) (entL 0 L) 0 with
    | none =>
      rw [hi] at hfd
      have hn : idxS x y L = none := by
        cases hq : idxS x y L with
        | none => rfl
        | some m => rw [hq] at hfd; cases hfd
      exact cT rfl (ad rfl (none_ (idx_none hn) K2))
    | some r =>
      rw [hi] at hfd
      cases hq : idxS x y L with
      | none => rw [hq] at hfd; cases hfd
      | some m =>
        rw [hq] at hfd
        simp only [Option.map_some, Option.some.injEq, Nat.zero_add] at hfd
        obtain ⟨hm, hat⟩ := idx_some hq
        refine cF rfl (ad rfl (on (sl_of (i := 0 + 5) (at_keep g1 K2) rfl) ?_))
        obtain ⟨b, e1, e2⟩ := Bks.elt (n := L.length) (i := m) (z := r.2) (g2.row.keep K2) hfd hm hm (tys := tyZpC0) (p := fun vs26' => adS (some (⟨2 * M.nb.size, 0, none⟩ : Addr)) fun a27' => stP (some 23) vs26'.toArray N a27'.block a27'.off fun M28' => adS (some (⟨2 * M.nb.size, 0, none⟩ : Addr)) fun a29' => ldP tyZpC0 M28' a29'.block a29'.off fun vs30' => (fun v N => v = atV (atS x y L) ∧ Keep M N) (.tuple #[.agg vs30'.toArray, .bool true]) M28') rfl
          (ad rfl (stA (cs := L[m].cs) (at_keep a K2) (fl K2) rfl rfl rfl fun M6 C6 z6 b6 => ad rfl (ldA b6 rfl ⟨by rw [hat]; rfl, Keep.step (K1.trans K2) C6 fun i hi => by omega⟩)))
        exact ix e1 e2
end
end Go.Zt
