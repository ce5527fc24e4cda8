/- Layer 17: law5, GridPlays. -/
import Derived.Test.YtamlmpeiamkllaaZoK
import Derived.Test.YtamlmpeiamkllaaZoA
import Derived.Test.YtamlmpeiamkllaaZpM
set_option linter.unusedSimpArgs false
set_option linter.unusedVariables false
set_option maxRecDepth 100000
namespace Go.Zt
open Go Go.Sim Go.Proofs Go.RowKit

theorem idxA_blk {A : Option Addr} {n s : Nat} {z : Int} {a : Addr} (h : idxA A n s z = some a) : ∃ b, A = some b ∧ a.block = b.block := by
  unfold idxA at h
  split at h
  · cases A with
    | none => simp at h
    | some b =>
      refine ⟨b, rfl, ?_⟩
      simp only [Option.map_some, Option.some.injEq] at h
      rw [← h]
  · cases h
theorem idxA_get {j s n i : Nat} {sp : Option Nat} (h : i < n) : ∃ a, idxA (some ⟨2 * j, 0, sp⟩) n s (i : Int) = some a ∧ a.block = 2 * j ∧ a.off = i * s := by
  unfold idxA
  rw [if_pos (by omega)]
  exact ⟨_, rfl, rfl, by simp⟩
theorem bkRow {M : Mem} {A : Option Addr} {L : List Bk} (hR : Row M A (Bks L)) {n i : Nat} {b : Bk} {a : Addr} (hn : i < n) (hb : L[i]? = some b) (h : idxA A n 23 (i : Int) = some a) : BkAt M a.block a.off b := by
  obtain ⟨hi, rfl⟩ := List.getElem?_eq_some_iff.1 hb
  have hl := Bks_len L
  obtain ⟨a', h1, h2⟩ := hR.elt (s := 23) (n := n) (i := i) (z := (i : Int)) rfl hn (by decide) (by omega)
  rw [h] at h1
  obtain rfl := Option.some.inj h1
  intro o ho
  rw [h2 o ho]
  have h3 := Bks_at hi
  have : (Bks L)[i * 23 + o]? = (((Bks L).drop (i * 23)).take 23)[o]? := by rw [List.getElem?_take_of_lt ho, List.getElem?_drop]
  rw [this, h3]
  simp
theorem ixEx {M : Mem} {A : Option Addr} {L : List Bk} (hR : Row M A (Bks L)) {n i : Nat} (hn : i < n) (hi : i < L.length) : ∃ a, idxA A n 23 (i : Int) = some a := by
  have hl := Bks_len L
  obtain ⟨a', h1, h2⟩ := hR.elt (s := 23) (n := n) (i := i) (z := (i : Int)) rfl hn (by decide) (by omega)
  exact ⟨a', h1⟩
theorem ldB {M : Mem} {blk off : Nat} {b : Bk} {tys : List Sc} {p : List Value → Prop} (h : BkAt M blk off b) (hf : fitL tys b.cs.toList = true) (k : p b.cs.toList) : ldP tys M blk off p :=
  ld (p := p) (fun i hi => by
    have hi' : i < 23 := hi
    rw [h i hi']
    simp) hf k
structure Ak where
  x : Int
  y : Int
  s : Int
  w : Int
  r : Int
abbrev Ak.cs (a : Ak) : Array Value := #[.int .i64 a.x, .int .i64 a.y, .int .i64 a.s, .int .i64 a.w, .int .i64 a.r]
abbrev Aks (L : List Ak) : List Value := L.flatMap fun a => a.cs.toList
theorem Aks_len (L : List Ak) : (Aks L).length = 5 * L.length := by
  induction L with
  | nil => rfl
  | cons x L ih => simp only [Aks, List.flatMap_cons, List.length_append, List.length_cons] at ih ⊢; rw [ih]; show 5 + _ = _; omega
theorem Aks_at {L : List Ak} {i : Nat} (hi : i < L.length) : ((Aks L).drop (i * 5)).take 5 = L[i].cs.toList := by
  induction L generalizing i with
  | nil => simp at hi
  | cons b L ih =>
    have lb : b.cs.toList.length = 5 := rfl
    cases i with
    | zero =>
      simp only [Aks, List.flatMap_cons, Nat.zero_mul, List.drop_zero, List.getElem_cons_zero]
      rw [List.take_append_of_le_length (by rw [lb]; exact Nat.le_refl _), List.take_of_length_le (by rw [lb]; exact Nat.le_refl _)]
    | succ i =>
      simp only [Aks, List.flatMap_cons, List.getElem_cons_succ]
      rw [List.drop_append, lb, List.drop_of_length_le (by rw [lb]; omega), List.nil_append, show (i + 1) * 5 - 5 = i * 5 by omega]
      exact ih (by simpa using hi)
theorem ixA {M : Mem} {A : Option Addr} {q : List Ak} (hR : Row M A (Aks q)) {n i : Nat} (hn : i < n) (hi : i < q.length) {P : Int → Int → Int → Int → Int → Prop} (k : P q[i].x q[i].y q[i].s q[i].w q[i].r) :
    ixS (idxA A n 5 (i : Int)) fun a => onS (M.intAt .i64 a.block a.off) fun x => onS (M.intAt .i64 a.block (a.off + 1)) fun y => onS (M.intAt .i64 a.block (a.off + 2)) fun s => onS (M.intAt .i64 a.block (a.off + 3)) fun w => onS (M.intAt .i64 a.block (a.off + 4)) fun r => P x y s w r := by
  have hl := Aks_len q
  obtain ⟨a, h1, h2⟩ := hR.elt (s := 5) (n := n) (i := i) (z := (i : Int)) rfl hn (by decide) (by omega)
  have g : ∀ o, o < 5 → M.cell a.block (a.off + o) = q[i].cs[o]? := fun o ho => by
    rw [h2 o ho]
    have h3 := Aks_at hi
    have : (Aks q)[i * 5 + o]? = (((Aks q).drop (i * 5)).take 5)[o]? := by rw [List.getElem?_take_of_lt ho, List.getElem?_drop]
    rw [this, h3]
    simp
  exact ix h1 (on (cell_int (g 0 (by decide))) (on (cell_int (g 1 (by decide))) (on (cell_int (g 2 (by decide))) (on (cell_int (g 3 (by decide))) (on (cell_int (g 4 (by decide))) k)))))
def Ak.in (a : Ak) : Prop := i64R a.x ∧ i64R a.y ∧ i64R a.w ∧ i64R a.r
/-- A row whose block does not change here. -/
def Fix (M : Mem) (A : Option Addr) : Prop := ∀ a, A = some a → a.block % 2 = 1 ∨ ∃ j cs t, a.block = 2 * j ∧ M.nb[j]? = some (.cells cs t) ∧ eqVs cs.toList cs.toList = true
structure Pl (M0 M : Mem) (jg jm jr : Nat) (t : Tl) (L : List Bk) : Prop where
  K : Keep M0 M
  ex : ∃ V U, Gr V M jg jm t L ∧ Rf U M jr t L ∧ (∀ i, V i ∨ i = jg ∨ i = jm → M0.nb.size ≤ i ∧ i < M.nb.size ∧ ¬ (U i ∨ i = jr)) ∧ ∀ i, U i ∨ i = jr → M0.nb.size ≤ i ∧ i < M.nb.size
section
variable {M0 M N : Mem} {jg jm jr : Nat} {t : Tl} {L l : List Bk} {q : List Ak} {b : Bk} {Ax1 Ax2 : Option Addr} {lx1 cx1 lx2 cx2 : Nat}
theorem Pl.keep (P : Pl M0 M jg jm jr t L) (K : Keep M N) : Pl M0 N jg jm jr t L := by
  obtain ⟨V, U, g, r, h1, h2⟩ := P.ex
  have s := K.size
  exact ⟨P.K.trans K, V, U, g.keep K, r.keep K, fun i hi => by obtain ⟨a, b, c⟩ := h1 i hi; exact ⟨a, by omega, c⟩, fun i hi => by obtain ⟨a, b⟩ := h2 i hi; exact ⟨a, by omega⟩⟩
abbrev QK (M0 : Mem) : Value → Mem → Prop := fun v N => v = .bool true ∧ Keep M0 N
/-- Blocks are compared after one was spoilt. -/
theorem e5_6 (hf : M0.floor ≤ M0.nb.size) {jx n cx n2 c2 : Nat} {sp : Option Nat} {A2 : Option Addr} (hn : n ≤ 1000) (hjx : M0.nb.size ≤ jx) (hn2 : n2 = L.length) :
    ∀ (q i : Nat) {M : Mem} {cs : Array Value}, i + q = n → (∃ V U, Gr V M jg jm t L ∧ Rf U M jr t L ∧ (∀ i, V i ∨ i = jg ∨ i = jm → i ≠ jx) ∧ ∀ i, U i ∨ i = jr → i ≠ jx) → Keep M0 M → M.nb[jx]? = some (.cells cs 27) → n * 23 ≤ cs.size → Row M A2 (Bks L) → (∀ a, A2 = some a → a.block % 2 = 1 ∨ a.block / 2 ≠ jx) →
      A5_6 (some ⟨2 * jg, 0, none⟩) (some ⟨2 * jr, 0, none⟩) (some ⟨2 * jx, 0, sp⟩) n cx A2 n2 c2 (i : Int) M (QK M0)
  | q + 1, i, M, cs, hq, ⟨V, U, g, r, h1, h2⟩, K, a, hs, R, hA => by
    obtain ⟨a', e1, e2, e3⟩ := idxA_get (j := jx) (s := 23) (n := n) (i := i) (sp := sp) (by omega)
    have fj : M.floor ≤ jx := by rw [K.floor]; omega
    obtain ⟨M2, p, C, z, a2⟩ := put1 (i * 23) (.int .i64 (-9)) a fj (by omega) rfl
    refine w5_6 (cT (decide_eq_true (by omega)) (ix e1 (pt (by rw [e2, e3]; exact p) ?_)))
    rw [i64w (x := (i : Int) + 1) (by omega)]
    exact e5_6 hf hn hjx hn2 q (i + 1) (by omega) ⟨V, U, g.chg C fun i _ h q => h1 i h q, r.chg C fun i _ h q => h2 i h q, h1, h2⟩ (Keep.step K C fun i hi => by omega) a2 (by rw [Array.size_setIfInBounds]; exact hs) (R.chg C fun a ha => (hA a ha)) hA
  | 0, i, M, cs, hq, ⟨V, U, g, r, h1, h2⟩, K, a, hs, R, hA => by
    have hf1 := fb hf K
    have hL := g.len
    refine w5_6 (cF (decide_eq_false (by omega)) (Cn.mono (c20 hf1 r) ?_))
    rintro _ N1 ⟨A3, c3, rfl, K1, O3, _⟩
    have T1 := K.trans K1
    refine ty rfl (Cn.eq (c19 (R.keep K1) O3.row hn2 rfl hL) (ty rfl (cT rfl (Cn.mono (c15 (fb hf T1) (g.keep K1)) ?_))))
    rintro _ N2 ⟨A4, c4, rfl, K2, O4, _⟩
    have T2 := T1.trans K2
    refine ty rfl (Cn.mono (c20 (fb hf T2) ((r.keep K1).keep K2)) ?_)
    rintro _ N3 ⟨A5, c5, rfl, K3, O5, _⟩
    have T3 := T2.trans K3
    exact ty rfl (Cn.eq (c19 (O4.row.keep K3) O5.row rfl rfl hL) (ty rfl (cT rfl (Cn.known rfl (ty rfl ⟨rfl, T3⟩)))))
/-- The asks at the end. -/
theorem e5_4 (hf : M0.floor ≤ M0.nb.size) (hl2 : lx2 = q.length) (R2 : Row M0 Ax2 (Aks q)) (hq : ∀ a ∈ q, a.in) :
    ∀ (k i : Nat) {M : Mem}, i + k = min q.length 100 → Pl M0 M jg jm jr t L → A5_4 Ax2 lx2 cx2 (some ⟨2 * jg, 0, none⟩) (some ⟨2 * jr, 0, none⟩) (i : Int) M (QK M0)
  | k + 1, i, M, hk, P => by
    obtain ⟨V, U, g, r, h1, h2⟩ := P.ex
    have hi : i < q.length := by omega
    have hin := hq _ (List.getElem_mem hi)
    refine w5_4 (cA (fun z => A5_5 Ax2 lx2 cx2 (some ⟨2 * jg, 0, none⟩) (some ⟨2 * jr, 0, none⟩) (i : Int) z M (QK M0)) ?_)
    rw [show (decide ((i : Int) < (lx2 : Int)) && decide ((i : Int) < 100)) = true by
      rw [Bool.and_eq_true, decide_eq_true_eq, decide_eq_true_eq]; omega]
    refine w5_5 (cT rfl (ixA (R2.keep P.K) (by omega) hi (Cn.mono (c18 (fb hf P.K) g r hin.1 hin.2.1 hin.2.2.1 hin.2.2.2) ?_)))
    rintro _ N ⟨rfl, K⟩
    refine ty rfl (cF rfl ?_)
    rw [i64w (x := (i : Int) + 1) (by omega)]
    exact e5_4 hf hl2 R2 hq k (i + 1) (by omega) (P.keep K)
  | 0, i, M, hk, P => by
    obtain ⟨V, U, g, r, h1, h2⟩ := P.ex
    refine w5_4 (cA (fun z => A5_5 Ax2 lx2 cx2 (some ⟨2 * jg, 0, none⟩) (some ⟨2 * jr, 0, none⟩) (i : Int) z M (QK M0)) ?_)
    rw [show (decide ((i : Int) < (lx2 : Int)) && decide ((i : Int) < 100)) = false by
      rw [Bool.and_eq_false_iff, decide_eq_false_iff_not, decide_eq_false_iff_not]; omega]
    have hf1 := fb hf P.K
    have hL := g.len
    have s0 := P.K.size
    refine w5_5 (cF rfl (Cn.mono (c15 hf1 g) ?_))
    rintro _ N1 ⟨A3, c3, rfl, K1, O3, hc3⟩
    have T1 := P.K.trans K1
    have s1 := K1.size
    refine ty rfl (Cn.mono (c15 (fb hf T1) (g.keep K1)) ?_)
    rintro _ N2 ⟨A4, c4, rfl, K2, O4, hc4⟩
    have T2 := T1.trans K2
    have s2 := K2.size
    refine ty rfl ?_
    rcases O3.chg K2 fun _ _ _ h => h with ⟨rfl, hb, hc⟩ | ⟨jx, cs, sp, rfl, _, hj, a, _, hle, hsz⟩
    · have : L = [] := by
        cases L with
        | nil => rfl
        | cons b L => simp [Bks] at hb
      subst this
      refine w5_6 (cF (decide_eq_false (by simp)) (Cn.mono (c20 (fb hf T2) ((r.keep K1).keep K2)) ?_))
      rintro _ N3 ⟨A5, c5, rfl, K3, O5, _⟩
      have T3 := T2.trans K3
      refine ty rfl (Cn.eq (c19 (O4.row.keep K3) O5.row rfl rfl hL) (ty rfl (cT rfl (Cn.mono (c15 (fb hf T3) (((g.keep K1).keep K2).keep K3)) ?_))))
      rintro _ N4 ⟨A6, c6, rfl, K4, O6, _⟩
      have T4 := T3.trans K4
      refine ty rfl (Cn.mono (c20 (fb hf T4) ((((r.keep K1).keep K2).keep K3).keep K4)) ?_)
      rintro _ N5 ⟨A7, c7, rfl, K5, O7, _⟩
      have T5 := T4.trans K5
      exact ty rfl (Cn.eq (c19 (O6.row.keep K5) O7.row rfl rfl hL) (ty rfl (cT rfl (Cn.known rfl (ty rfl ⟨rfl, T5⟩)))))
    · have hlt : jx < N1.nb.size := by
        rcases O3 with ⟨h, _⟩ | ⟨jx', cs', sp', h, _, _, a', _⟩
        · cases h
        · have e : (⟨2 * jx, 0, sp⟩ : Addr) = ⟨2 * jx', 0, sp'⟩ := Option.some.inj h
          have : jx = jx' := by have := congrArg Addr.block e; simp at this; omega
          rw [this]
          exact lt_of_at a'
      have hn : 23 * L.length = (Bks L).length := (Bks_len L).symm
      refine e5_6 hf hL (by omega) rfl L.length 0 (by omega) ⟨V, U, (g.keep K1).keep K2, (r.keep K1).keep K2, fun i hi => by have := (h1 i hi).2.1; omega, fun i hi => by have := (h2 i hi).2; omega⟩ T2 a (by omega) O4.row fun a' ha' => ?_
      obtain ⟨e1, e2⟩ := O4.in_ a' ha'
      exact .inr (by omega)
end
end Go.Zt
