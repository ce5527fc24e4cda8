/- Layer 3: CdfAverages. -/
import Derived.Test.YtbnhbmkoghnjhaaZhJa
import Derived.Test.YtbnhbmkoghnjhaaZhDb
set_option linter.unusedSimpArgs false
set_option linter.unusedVariables false
set_option maxRecDepth 100000
namespace Go.Zt
open Go Go.Sim Go.Proofs Go.RowKit

section
variable {M0 : Mem} {A : Option Addr} {n c : Nat} {T : List Tv}
/-- Copies of tables. -/
structure Cps (M0 M : Mem) (Sl : Nat → Prop) (T U : List Tv) : Prop where
  len : U.length ≤ T.length
  same : ∀ i (h : i < U.length) (h2 : i < T.length), U[i].l = T[i].l ∧ U[i].k = T[i].k
  each : ∀ u ∈ U, Own (fun p => M0.nb.size ≤ p ∧ ¬ Sl p) M 47 u.A u.c (uL (u.l ++ room)) ∧ u.l.length + 3 ≤ u.c
theorem Cps.next {M N : Mem} {Sl : Nat → Prop} {U : List Tv} (h : Cps M0 M Sl T U) (K : Keep M N) : Cps M0 N Sl T U := ⟨h.len, h.same, fun u hu => ⟨(h.each u hu).1.chg K fun _ _ _ h => h, (h.each u hu).2⟩⟩
theorem Cps.xs {M : Mem} {Sl : Nat → Prop} {U : List Tv} (h : Cps M0 M Sl T U) (hl : U.length = T.length) : Xs U = Xs T := by
  refine List.ext_getElem? fun i => ?_
  rcases Nat.lt_or_ge i T.length with hi | hi
  · have hi2 : i < U.length := by omega
    obtain ⟨h1, h2⟩ := h.same i hi2 hi
    rw [List.getElem?_map, List.getElem?_map, List.getElem?_eq_getElem hi, List.getElem?_eq_getElem hi2]
    simp only [Option.map_some, Tv.x, h1, h2]
  · rw [List.getElem?_eq_none (by simp; omega), List.getElem?_eq_none (by simp; omega)]
theorem c4_kept (hf : M0.floor ≤ M0.nb.size) (hR : Row M0 A (T.flatMap tvC)) (hg : ∀ t ∈ T, TG M0 1048576 t) (hn : n = T.length) (hb : n ≤ 1048576) {Sl : Nat → Prop} {U : List Tv} (hU : U.length = T.length) {B : Option Addr} {d : Nat} :
    ∀ (m i : Nat) {M : Mem}, i + m = n → Keep M0 M → Lst M0 Sl M B d U → Cps M0 M Sl T U → A4_2 A n c B n d (i : Nat) M fun v _ => v = .bool true := by
  intro m
  induction m with
  | zero =>
    intro i M hi K hL hC
    exact w4_2 ⟨fun h => by omega, fun _ => Cn.eq c16 ⟨_, rfl, rfl⟩⟩
  | succ m ih =>
    intro i M hi K hL hC
    have hiT : i < T.length := by omega
    have hiU : i < U.length := by omega
    have hT : Tvs M A T := ⟨hR.keep K, fun t ht => ⟨(hg t ht).row.keep K, by have := (hg t ht).len; omega⟩⟩
    obtain ⟨a, x1, x2, x3⟩ := hT.at_ (n := n) (i := i) (z := ((i : Nat) : Int)) rfl (by omega) hiT
    obtain ⟨b, y1, y2⟩ := hL.own.row.flat tvC_len (by decide) (n := n) (i := i) (z := ((i : Nat) : Int)) rfl (by omega) hiU
    obtain ⟨e1, e2⟩ := hC.same i hiU hiT
    obtain ⟨g1, g2⟩ := hC.each _ (List.getElem_mem hiU)
    have gl := (hg _ (List.getElem_mem hiT)).len
    refine w4_2 ⟨fun _ => ⟨_, y1, _, cell_sl (y2 0 (by decide)), _, cell_int (y2 1 (by decide)), _, x1, _, x2, _, x3, ?_⟩, fun h => by omega⟩
    dsimp only
    have hk : Cn Try.prog 14 #[.agg #[.slice U[i].A U[i].l.length U[i].c, .int .i64 U[i].k], .agg #[.slice T[i].A T[i].l.length T[i].c, .int .i64 U[i].k]] M fun v N => v = .bool true ∧ Keep M N :=
      c14 g1 rfl (by rw [e1]; omega) g2 (by rw [e1]; exact (hT.each _ (List.getElem_mem hiT)).1) (by rw [e1])
    rw [← e2]
    refine Cn.mono hk ?_
    rintro _ N ⟨rfl, KN⟩
    refine ⟨_, rfl, fun h => (by cases h), fun _ => ?_⟩
    rw [i64w (by omega), show ((i : Int) + 1) = ((i + 1 : Nat) : Int) by omega]
    exact ih (i + 1) (by omega) (K.trans KN) (hL.next KN) (hC.next KN)
theorem c4_loop (hf : M0.floor ≤ M0.nb.size) (hR : Row M0 A (T.flatMap tvC)) (hg : ∀ t ∈ T, TG M0 1048576 t) (hn : n = T.length) (hb : n ≤ 1048576) :
    ∀ (m i : Nat) {M : Mem} {Sl : Nat → Prop} {B : Option Addr} {d : Nat} {U : List Tv}, i + m = n → U.length = i → Keep M0 M → Lst M0 Sl M B d U → Cps M0 M Sl T U → A4_1 A n c B i d (i : Nat) M fun v _ => v = .bool true := by
  intro m
  induction m with
  | zero =>
    intro i M Sl B d U hi hU K hL hC
    obtain rfl : n = i := by omega
    have hfM := fb hf K
    have hTU : Tvs M B U := ⟨hL.own.row, fun u hu => by
      obtain ⟨q, hq, rfl⟩ := List.getElem_of_mem hu
      obtain ⟨e1, e2⟩ := hC.same q hq (by omega)
      have := (hg _ (List.getElem_mem (show q < T.length by omega))).len
      exact ⟨row_pre (hC.each _ hu).1.row, by rw [e1]; omega⟩⟩
    refine w4_1 ⟨fun h => by omega, fun _ => Cn.mono (c17 hfM hTU hU.symm (by omega)) fun v N h9 => h9.new hfM ?_⟩
    rw [hC.xs (by omega)]
    intro Aa ca M16 K16 z16 ua Oa hca
    have hf16 := fb hfM K16
    have hT : Tvs M16 A T := ⟨hR.keep (K.trans K16), fun t ht => ⟨(hg t ht).row.keep (K.trans K16), by have := (hg t ht).len; omega⟩⟩
    refine Cn.mono (c18 hf16 hT hn (by omega)) fun v N h17 => h17.new hf16 ?_
    intro Ab cb M24 K24 z24 ub Ob hcb
    have y16 := lt_of_at ua
    have y24 := lt_of_at ub
    have ua := at_keep ua K24
    have Oa := Oa.chg K24 fun _ _ _ h => h
    have KM := K16.trans K24
    refine ⟨_, sl_of ua rfl, _, int_of ua rfl, _, sl_of ub rfl, _, int_of ub rfl, Cn.mono (c15 Oa (fun p hp => by rw [KM.floor]; omega) (fb hfM KM) rfl (avg_len _) Ob.row rfl) ?_⟩
    rintro _ N30 ⟨rfl, C30⟩
    have K30 : Keep M N30 := Keep.step KM C30 fun p hp => hp.1
    rw [decide_eq_true ⟨rfl, rfl, rfl⟩]
    refine ⟨_, rfl, fun h => (by cases h), fun _ => ?_⟩
    exact c4_kept hf hR hg hn hb (by omega) n 0 (Nat.zero_add _) (K.trans K30) (hL.next K30) (hC.next K30)
  | succ m ih =>
    intro i M Sl B d U hi hU K hL hC
    have hfM := fb hf K
    have hiT : i < T.length := by omega
    have hT : Tvs M A T := ⟨hR.keep K, fun t ht => ⟨(hg t ht).row.keep K, by have := (hg t ht).len; omega⟩⟩
    obtain ⟨a, x1, x2, x3⟩ := hT.at_ (n := n) (i := i) (z := ((i : Nat) : Int)) rfl (by omega) hiT
    obtain ⟨r1, r2⟩ := hT.each _ (List.getElem_mem hiT)
    refine w4_1 ⟨fun _ => ⟨_, x1, _, x2, _, x3, Cn.mono (c10 hfM r1 rfl r2) ?_⟩, fun h => by omega⟩
    rintro _ N ⟨C, e, rfl, KN, hO, hc⟩
    have hq := KN.size
    obtain ⟨A', c', M', g1, g2, g3, g4⟩ := (hL.next KN).app hf (K.trans KN) ⟨C, e, T[i].l, T[i].k⟩ (by omega)
    rw [hU] at g1
    refine ⟨_, rfl, _, rfl, _, rfl, _, g1, _, rfl, ?_⟩
    dsimp only
    rw [i64w (by omega), show ((i : Int) + 1) = ((i + 1 : Nat) : Int) by omega]
    refine ih (i + 1) (by omega) (by simp [hU]) g4 g3 ⟨by simp; omega, fun q h1 h2 => ?_, fun u hu => ?_⟩
    · by_cases e : q < U.length
      · rw [List.getElem_append_left e]; exact hC.same q e h2
      · have : q = i := by simp at h1; omega
        subst this
        rw [List.getElem_append_right (by omega)]; simp
    · rcases List.mem_append.1 hu with h | h
      · obtain ⟨o1, o2⟩ := hC.each u h
        refine ⟨?_, o2⟩
        have o3 : Own (fun p => (M0.nb.size ≤ p ∧ ¬ Sl p) ∧ p < M.nb.size) M 47 u.A u.c (uL (u.l ++ room)) := o1.mono fun p hp h => ⟨h, hp⟩
        exact ((o3.chg KN fun _ _ _ h => h).chg g2 fun p _ h1 h2 => by
          rcases h2 with h2 | h2
          · exact h1.1.2 h2
          · omega).mono fun p _ h => ⟨h.1.1, fun hh => by
          rcases hh.1 with h2 | h2
          · exact h.1.2 h2
          · omega⟩
      · simp at h; subst h
        refine ⟨?_, hc⟩
        have o3 : Own (fun p => M.nb.size ≤ p ∧ p < N.nb.size) N 47 C e (uL (T[i].l ++ room)) := hO.mono fun p hp h => ⟨h, hp⟩
        have hKs := K.size
        exact (o3.chg g2 fun p _ h1 h2 => by
          rcases h2 with h2 | h2
          · have := (hL.in_ p h2).2; omega
          · omega).mono fun p _ h => ⟨by omega, fun hh => by
          rcases hh.1 with h2 | h2
          · have := (hL.in_ p h2).2; omega
          · omega⟩
end
theorem law4 {W : World} {u0 : Value} (s0 : Sees Try.prog (mem0 W) 1048576 8 34 [u0]) : Cn Try.prog 4 #[u0] (mem0 W) fun v _ => v = .bool true := by
  obtain ⟨A, c, T, e, hc, hl, hAo, hR, hg⟩ := sees_tabs s0
  simp at e
  subst e
  have hf : (mem0 W).floor ≤ (mem0 W).nb.size := Nat.le_refl _
  generalize mem0 W = M at hg hf hR ⊢
  exact w4_0 (c4_loop (M0 := M) hf hR hg rfl hl T.length 0 (Sl := fun _ => False) (U := []) (Nat.zero_add _) rfl (.refl _) ⟨Own.empty, fun _ h => h.elim⟩ ⟨Nat.zero_le _, fun i h => (by simp at h), fun u hu => (by simp at hu)⟩)
end Go.Zt
