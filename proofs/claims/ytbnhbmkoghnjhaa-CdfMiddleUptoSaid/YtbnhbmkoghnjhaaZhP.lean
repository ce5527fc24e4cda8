/- Layer 3: CdfMiddle. -/
import Derived.Test.YtbnhbmkoghnjhaaZhJa
import Derived.Test.YtbnhbmkoghnjhaaZhDe
set_option linter.unusedSimpArgs false
set_option linter.unusedVariables false
set_option maxRecDepth 100000
namespace Go.Zt
open Go Go.Sim Go.Proofs Go.RowKit

theorem c22' {x n : Int} {M : Mem} (hn : 0 < n) (hb : n ≤ 1099511627776) : Cn Try.prog 22 #[.int .i64 x, .int .i64 n] M fun v N => v = .int .i64 (x % n) ∧ N = M := by
  have hb' := brg_tmod (x := x) (n := n) (by omega)
  have e : brg x n = x % n := by unfold brg; rw [if_neg (by omega)]
  have h1 : 0 ≤ x % n := Int.emod_nonneg _ (by omega)
  have h2 : x % n < n := Int.emod_lt_of_pos _ hn
  refine w22_0 ⟨fun h => by omega, fun _ => ⟨_, binV_rem (by omega), _, rfl, fun h => ⟨?_, rfl⟩, fun h => ⟨?_, rfl⟩⟩⟩
  · have := hb'.1 h
    rw [this, e, i64w (by omega)]
  · rw [hb'.2 h, e]
/-! ### The middle -/
section
variable {X : List (List Nat × Int)}
theorem col_ge {B q : Nat} (h : ∀ y ∈ X, B ≤ gn y.1 q) : X.length * B ≤ colS X q := by
  unfold colS
  induction X with
  | nil => simp
  | cons x X ih =>
    have := ih fun y hy => h y (List.mem_cons_of_mem _ hy)
    have h2 := h x (List.mem_cons_self ..)
    rw [List.map_cons, List.sum_cons, List.length_cons, Nat.add_mul, Nat.one_mul]; omega
theorem avg_ge {B q : Nat} (h0 : 0 < X.length) (h : ∀ y ∈ X, B ≤ gn y.1 q) : B ≤ avgV X q := by
  have := col_ge h
  unfold avgV
  rw [Nat.le_div_iff_mul_le h0, Nat.mul_comm]; omega
theorem avg_le {B q : Nat} (h0 : 0 < X.length) (h : ∀ y ∈ X, gn y.1 q ≤ B) : avgV X q ≤ B := by
  have := col_le h
  unfold avgV
  refine Nat.le_of_lt_succ ((Nat.div_lt_iff_lt_mul h0).2 ?_)
  rw [Nat.succ_mul, Nat.mul_comm B]; omega
theorem avg_len_eq : (avgL X).length = (X.headD ([], 0)).1.length := by unfold avgL; simp
theorem gn_avg {q : Nat} (hq : q < (X.headD ([], 0)).1.length) : gn (avgL X) q = avgV X q := by unfold avgL; exact gn_map hq
theorem avg_okt (h : avgOk X = true) : Okt (avgL X) 0 := by
  obtain ⟨h1, h2⟩ := avgOk_iff.1 h
  have h0 : 0 < X.length := List.length_pos_iff.2 h1
  obtain ⟨x, hx⟩ : ∃ x, x ∈ X := by
    cases X with
    | nil => exact absurd rfl h1
    | cons x X => exact ⟨x, List.mem_cons_self ..⟩
  obtain ⟨ox, lx⟩ := h2 x hx
  have lo := ox.lo
  have hi := ox.hi
  refine ⟨by rw [avg_len_eq]; omega, by rw [avg_len_eq]; omega, Int.le_refl _, by decide, ?_, ?_⟩
  · rw [avg_len_eq, gn_avg (by omega)]
    have e : ∀ y ∈ X, gn y.1 ((X.headD ([], 0)).1.length - 1) = 32768 := fun y hy => by
      obtain ⟨oy, ly⟩ := h2 y hy
      rw [← ly]; exact oy.last
    exact Nat.le_antisymm (avg_le h0 fun y hy => Nat.le_of_eq (e y hy)) (avg_ge h0 fun y hy => Nat.le_of_eq (e y hy).symm)
  · intro q _ hq
    rw [avg_len_eq] at hq
    rw [gn_avg (by omega), gn_avg hq]
    unfold avgV
    refine Nat.div_le_div_right (Nat.add_le_add_left ?_ _)
    have : ∀ Y : List (List Nat × Int), (∀ y ∈ Y, gn y.1 q ≤ gn y.1 (q + 1)) → colS Y q ≤ colS Y (q + 1) := by
      intro Y hY
      unfold colS
      induction Y with
      | nil => simp
      | cons y Y ih =>
        rw [List.map_cons, List.map_cons, List.sum_cons, List.sum_cons]
        have := ih fun z hz => hY z (List.mem_cons_of_mem _ hz)
        have := hY y (List.mem_cons_self ..)
        omega
    exact this X fun y hy => by
      obtain ⟨oy, ly⟩ := h2 y hy
      exact oy.srt q (Nat.zero_le _) (by omega)
theorem head_mem (h : X ≠ []) : X.headD ([], 0) ∈ X := by
  cases X with
  | nil => exact absurd rfl h
  | cons x X => exact List.mem_cons_self ..
theorem avgOk_rev : avgOk X.reverse = avgOk X := by
  rw [Bool.eq_iff_iff, avgOk_iff, avgOk_iff]
  by_cases h : X = []
  · subst h; simp
  have h' : X.reverse ≠ [] := by simpa using h
  have m1 := head_mem h
  have m2 := head_mem h'
  constructor
  · rintro ⟨_, h2⟩
    refine ⟨h, fun y hy => ?_⟩
    have a := h2 y (List.mem_reverse.2 hy)
    have b := h2 _ (List.mem_reverse.2 m1)
    exact ⟨a.1, by rw [a.2, b.2]⟩
  · rintro ⟨_, h2⟩
    refine ⟨h', fun y hy => ?_⟩
    have a := h2 y (List.mem_reverse.1 hy)
    have b := h2 _ (List.mem_reverse.1 m2)
    exact ⟨a.1, by rw [a.2, b.2]⟩
theorem col_rev {q : Nat} : colS X.reverse q = colS X q := by
  unfold colS; rw [List.map_reverse, List.sum_reverse]
theorem avg_rev : avgS X.reverse = avgS X := by
  unfold avgS
  rw [avgOk_rev]
  by_cases h : avgOk X = true
  · rw [if_pos h, if_pos h]
    obtain ⟨h1, h2⟩ := avgOk_iff.1 h
    have h' : X.reverse ≠ [] := by simpa using h1
    have m2 := head_mem h'
    have b := (h2 _ (List.mem_reverse.1 m2)).2
    unfold avgL
    rw [b]
    congr 1
    refine List.map_congr_left fun q _ => ?_
    unfold avgV; rw [col_rev, List.length_reverse]
  · rw [if_neg h, if_neg h]
theorem avg_same {x : List Nat × Int} {m : Nat} (h : Okt x.1 x.2) : avgS (List.replicate (m + 1) x) = (x.1, 0, 0) := by
  have hok : avgOk (List.replicate (m + 1) x) = true := by
    rw [avgOk_iff]
    refine ⟨by simp, fun y hy => ?_⟩
    obtain rfl := List.eq_of_mem_replicate hy
    exact ⟨h, by simp [List.replicate_succ]⟩
  unfold avgS; rw [if_pos hok]
  have e : avgL (List.replicate (m + 1) x) = x.1 := by
    have hl : ((List.replicate (m + 1) x).headD ([], 0)).1.length = x.1.length := by simp [List.replicate_succ]
    refine ext_gn (by rw [avg_len_eq, hl]) fun q hq => ?_
    rw [avg_len_eq] at hq
    rw [gn_avg hq]
    have e : ∀ y ∈ List.replicate (m + 1) x, gn y.1 q = gn x.1 q := fun y hy => by rw [List.eq_of_mem_replicate hy]
    exact Nat.le_antisymm (avg_le (by simp) fun y hy => Nat.le_of_eq (e y hy)) (avg_ge (by simp) fun y hy => Nat.le_of_eq (e y hy).symm)
  rw [e]
end
section
variable {M0 : Mem} {A : Option Addr} {n c : Nat} {T : List Tv} {x1 : Int}
theorem c7_same (hf : M0.floor ≤ M0.nb.size) (hR : Row M0 A (T.flatMap tvC)) (hg : ∀ t ∈ T, TG M0 1048576 t) (hn : n = T.length) (h0 : 0 < T.length) (ho : Okt T[0].l T[0].k) {y : Nat} (hy : x1 % 20 = (y : Nat)) (hy2 : y < 20) :
    ∀ (m i : Nat) {M : Mem} {Sl : Nat → Prop} {B : Option Addr} {d : Nat}, i + m = y + 1 → Keep M0 M → Lst M0 Sl M B d (List.replicate i T[0]) → A7_7 A n c x1 B i d (i : Nat) M fun v _ => v = .bool true := by
  have tv0 : ∀ {M : Mem}, Keep M0 M → Tvs M A T := fun K => ⟨hR.keep K, fun t ht => ⟨(hg t ht).row.keep K, by have := (hg t ht).len; omega⟩⟩
  intro m
  induction m with
  | zero =>
    intro i M Sl B d hi K hL
    obtain rfl : i = y + 1 := by omega
    have hfM := fb hf K
    refine w7_7 (Cn.eq (c22' (by decide) (by decide)) ⟨_, rfl, fun h => ?_, fun _ => ?_⟩)
    · rw [hy, i64w (by omega)] at h; omega
    have hTU : Tvs M B (List.replicate (y + 1) T[0]) := ⟨hL.own.row, fun u hu => by
      rw [List.eq_of_mem_replicate hu]
      exact (tv0 K).each _ (List.getElem_mem h0)⟩
    refine Cn.mono (c17 hfM hTU (by simp) (by omega)) fun v N h9 => h9.new hfM ?_
    have eX : Xs (List.replicate (y + 1) T[0]) = List.replicate (y + 1) (T[0].l, T[0].k) := by simp [Xs, List.map_replicate]
    rw [eX, avg_same (x := (T[0].l, T[0].k)) ho]
    intro Aa ca M16 K16 z16 ua Oa hca
    obtain ⟨a, x1, x2, x3⟩ := (tv0 (K.trans K16)).at_ (n := n) (i := 0) (z := 0) rfl (by omega) h0
    have g := hg _ (List.getElem_mem h0)
    refine ⟨fun _ => ⟨_, sl_of ua rfl, _, int_of ua rfl, _, x1, _, x2, Cn.mono (c24 Oa.row rfl (by have := g.len; dsimp only; omega) (g.row.keep (K.trans K16)) rfl) ?_⟩, fun h => absurd rfl h⟩
    rintro _ N ⟨rfl, KN⟩
    rw [decide_eq_true ⟨rfl, rfl⟩]
    exact ⟨_, rfl, rfl⟩
  | succ m ih =>
    intro i M Sl B d hi K hL
    refine w7_7 (Cn.eq (c22' (by decide) (by decide)) ⟨_, rfl, fun _ => ?_, fun h => ?_⟩)
    · obtain ⟨a, x1, x2, x3⟩ := (tv0 K).at_ (n := n) (i := 0) (z := 0) rfl (by omega) h0
      obtain ⟨A', c', M', g1, g2, g3, g4⟩ := hL.app hf K T[0] (by simp; omega)
      rw [List.length_replicate] at g1
      refine ⟨_, x1, _, x2, _, x3, _, g1, _, rfl, ?_⟩
      dsimp only
      rw [i64w (by omega), show ((i : Int) + 1) = ((i + 1 : Nat) : Int) by omega]
      rw [← List.replicate_succ'] at g3
      exact ih (i + 1) (by omega) g4 g3
    · rw [hy, i64w (by omega)] at h; omega
theorem c7_cols (hf : M0.floor ≤ M0.nb.size) (hR : Row M0 A (T.flatMap tvC)) (hg : ∀ t ∈ T, TG M0 1048576 t) (hn : n = T.length) (hb : n ≤ 1048576) (hok : avgOk (Xs T) = true) {j5 : Nat} {Aa : Option Addr} {ca w : Nat} (hw : w = ((Xs T).headD ([], 0)).1.length) :
    ∀ (m q : Nat) {M : Mem}, q + m = w → Keep M0 M → M.nb[j5]? = some (tcells Aa w ca 0) → Row M Aa (uL (avgL (Xs T))) → A7_5 A n c x1 (some ⟨2 * j5, 0, none⟩) (q : Nat) M fun v _ => v = .bool true := by
  obtain ⟨h1, h2⟩ := avgOk_iff.1 hok
  have h0 : 0 < T.length := by
    have := List.length_pos_iff.2 h1
    simpa using this
  have hX0 : 0 < (Xs T).length := by simpa using h0
  have at_ : ∀ t ∈ T, Okt t.l t.k ∧ t.l.length = w := fun t ht => by
    have := h2 (t.l, t.k) (List.mem_map.2 ⟨t, ht, rfl⟩)
    exact ⟨this.1, by rw [hw]; exact this.2⟩
  obtain ⟨ot, lt0⟩ := at_ _ (List.getElem_mem h0)
  have hw16 := ot.hi
  have tv0 : ∀ {M : Mem}, Keep M0 M → Tvs M A T := fun K => ⟨hR.keep K, fun t ht => ⟨(hg t ht).row.keep K, by have := (hg t ht).len; omega⟩⟩
  have hwl : w = (avgL (Xs T)).length := by rw [avg_len_eq, hw]
  have h20 : 0 ≤ x1 % 20 ∧ x1 % 20 < 20 := ⟨Int.emod_nonneg _ (by decide), Int.emod_lt_of_pos _ (by decide)⟩
  intro m
  induction m with
  | zero =>
    intro q M hq K ha hA
    obtain rfl : w = q := by omega
    refine w7_5 ⟨_, rfl, _, sl_of ha rfl, fun h => ?_, fun _ => ?_⟩
    · have h : ((w : Nat) : Int) < (w : Nat) := h
      omega
    · exact c7_same hf hR hg hn h0 ot (y := (x1 % 20).toNat) (by omega) (by omega) ((x1 % 20).toNat + 1) 0 (Sl := fun _ => False) (Nat.zero_add _) K ⟨Own.empty, fun _ h => h.elim⟩
  | succ m ih =>
    intro q M hq K ha hA
    obtain ⟨a, x1', x2', x3'⟩ := (tv0 K).at_ (n := n) (i := 0) (z := 0) rfl (by omega) h0
    obtain ⟨b, z1, z2⟩ := ((tv0 K).each _ (List.getElem_mem h0)).1.u16 (n := T[0].l.length) (i := q) (z := ((q : Nat) : Int)) rfl rfl (by omega)
    have inner : ∀ (t i lo hi : Nat), i + t = n → (∀ j (hj : j < T.length), j < i → lo ≤ gn T[j].l q ∧ gn T[j].l q ≤ hi) → A7_6 A n c x1 (some ⟨2 * j5, 0, none⟩) (q : Nat) (lo : Nat) (hi : Nat) (i : Nat) M fun v _ => v = .bool true := by
      intro t
      induction t with
      | zero =>
        intro i lo hi hi2 hs
        obtain rfl : n = i := by omega
        obtain ⟨b, z1, z2⟩ := hA.u16 (n := w) (i := q) (z := ((q : Nat) : Int)) hwl rfl (by omega)
        rw [gn_avg (by omega)] at z2
        have e1 : lo ≤ avgV (Xs T) q := avg_ge hX0 fun y hy => by
          obtain ⟨t, ht, rfl⟩ := List.mem_map.1 hy
          obtain ⟨j, hj, rfl⟩ := List.getElem_of_mem ht
          exact (hs j hj (by omega)).1
        have e2 : avgV (Xs T) q ≤ hi := avg_le hX0 fun y hy => by
          obtain ⟨t, ht, rfl⟩ := List.mem_map.1 hy
          obtain ⟨j, hj, rfl⟩ := List.getElem_of_mem ht
          exact (hs j hj (by omega)).2
        refine w7_6 ⟨fun h => by omega, fun _ => ⟨_, rfl, _, sl_of ha rfl, _, z1, _, z2, fun h => by omega, fun _ => ⟨_, rfl, _, sl_of ha rfl, _, z1, _, z2, ?_⟩⟩⟩
        rw [decide_eq_false (by omega)]
        refine w7_8 ⟨fun h => (by cases h), fun _ => ?_⟩
        rw [i64w (by omega), show ((q : Int) + 1) = ((q + 1 : Nat) : Int) by omega]
        exact ih (q + 1) (by omega) K ha hA
      | succ t ih2 =>
        intro i lo hi hi2 hs
        have hiT : i < T.length := by omega
        obtain ⟨a, y1, y2, y3⟩ := (tv0 K).at_ (n := n) (i := i) (z := ((i : Nat) : Int)) rfl (by omega) hiT
        obtain ⟨oi, li⟩ := at_ _ (List.getElem_mem hiT)
        obtain ⟨b, z1, z2⟩ := ((tv0 K).each _ (List.getElem_mem hiT)).1.u16 (n := T[i].l.length) (i := q) (z := ((q : Nat) : Int)) rfl rfl (by omega)
        refine w7_6 ⟨fun _ => ⟨_, y1, _, y2, _, z1, _, z2, _, y1, _, y2, _, z1, _, z2, ?_⟩, fun h => by omega⟩
        rw [i64w (by omega), show ((i : Int) + 1) = ((i + 1 : Nat) : Int) by omega]
        have hs' : ∀ j (hj : j < T.length), j < i + 1 → (if gn T[i].l q < lo then gn T[i].l q else lo) ≤ gn T[j].l q ∧ gn T[j].l q ≤ (if gn T[i].l q > hi then gn T[i].l q else hi) := by
          intro j hj hji
          by_cases e : j = i
          · subst e; constructor
            · split <;> omega
            · split <;> omega
          · obtain ⟨f1, f2⟩ := hs j hj (by omega)
            constructor
            · split <;> omega
            · split <;> omega
        have := ih2 (i + 1) _ _ (by omega) hs'
        have c1 : (((if gn T[i].l q < lo then gn T[i].l q else lo : Nat)) : Int) = (if ((gn T[i].l q : Nat) : Int) < (lo : Nat) then ((gn T[i].l q : Nat) : Int) else (lo : Nat)) := by
          by_cases h : gn T[i].l q < lo
          · rw [if_pos h, if_pos (by omega)]
          · rw [if_neg h, if_neg (by omega)]
        have c2 : (((if gn T[i].l q > hi then gn T[i].l q else hi : Nat)) : Int) = (if ((gn T[i].l q : Nat) : Int) > (hi : Nat) then ((gn T[i].l q : Nat) : Int) else (hi : Nat)) := by
          by_cases h : gn T[i].l q > hi
          · rw [if_pos h, if_pos (by omega)]
          · rw [if_neg h, if_neg (by omega)]
        rw [c1, c2] at this
        exact this
    refine w7_5 ⟨_, rfl, _, sl_of ha rfl, fun _ => ⟨_, x1', _, x2', _, z1, _, z2, _, x1', _, x2', _, z1, _, z2, inner n 0 _ _ (Nat.zero_add _) fun j hj h => by omega⟩, fun h => ?_⟩
    have h : ¬ ((q : Nat) : Int) < (w : Nat) := h
    omega
theorem c7_turn (hf : M0.floor ≤ M0.nb.size) (hR : Row M0 A (T.flatMap tvC)) (hg : ∀ t ∈ T, TG M0 1048576 t) (hn : n = T.length) (hb : n ≤ 1048576) {j5 : Nat} {Aa : Option Addr} {ca : Nat} (ha0 : M0.nb[j5]? = some (tcells Aa (avgS (Xs T)).1.length ca (avgS (Xs T)).2.1)) (hA0 : Row M0 Aa (uL (avgS (Xs T)).1)) :
    ∀ (j : Nat) {M : Mem} {Sl : Nat → Prop} {B : Option Addr} {d : Nat}, j ≤ n → Keep M0 M → Lst M0 Sl M B d (T.drop j).reverse →
      A7_1 A n c x1 (some ⟨2 * j5, 0, none⟩) ((avgS (Xs T)).2.2 : Nat) B (n - j) d ((j : Int) - 1) M fun v _ => v = .bool true := by
  have tv0 : ∀ {M : Mem}, Keep M0 M → Tvs M A T := fun K => ⟨hR.keep K, fun t ht => ⟨(hg t ht).row.keep K, by have := (hg t ht).len; omega⟩⟩
  intro j
  induction j with
  | zero =>
    intro M Sl B d hj K hL
    have ha := at_keep ha0 K
    have hA := hA0.keep K
    have hfM := fb hf K
    rw [List.drop_zero] at hL
    rw [Nat.sub_zero]
    have hTU : Tvs M B T.reverse := ⟨hL.own.row, fun u hu => (tv0 K).each _ (List.mem_reverse.1 hu)⟩
    refine w7_1 ⟨fun h => by omega, fun _ => Cn.mono (c17 hfM hTU (by simp [hn]) (by omega)) fun v N h9 => h9.new hfM ?_⟩
    have eX : Xs T.reverse = (Xs T).reverse := by simp [Xs]
    rw [eX, avg_rev]
    intro Ab cb M2 K2 z2 ub Ob hcb
    have ha2 := at_keep ha K2
    have hA2 := hA.keep K2
    refine ⟨fun h => absurd rfl h, fun _ => ?_⟩
    by_cases hok : avgOk (Xs T) = true
    · have e : avgS (Xs T) = (avgL (Xs T), 0, 0) := by unfold avgS; rw [if_pos hok]
      rw [e] at ha2 hA2 ub Ob ⊢
      have oa := avg_okt hok
      have hla := oa.hi
      dsimp only at ha2 hA2 ub Ob
      refine ⟨fun h => absurd rfl h, fun _ => ⟨_, rfl, _, sl_of ha2 rfl, _, int_of ha2 rfl, Cn.mono (c19 (n := (avgL (Xs T)).length) hA2 rfl (by omega)) ?_⟩⟩
      rintro _ N3 ⟨rfl, K3⟩
      rw [check_0.2 oa]
      have ha3 := at_keep ha2 K3
      have ub3 := at_keep ub K3
      have hA3 := hA2.keep K3
      refine ⟨_, rfl, fun h => absurd rfl h, fun _ => ⟨_, rfl, _, sl_of ha3 rfl, _, int_of ha3 rfl, _, sl_of ub3 rfl, Cn.mono (c24 (m := (avgL (Xs T)).length) hA3 rfl (by omega) (Ob.row.keep K3) rfl) ?_⟩⟩
      rintro _ N4 ⟨rfl, K4⟩
      rw [decide_eq_true ⟨rfl, rfl⟩]
      have ha4 := at_keep ha3 K4
      have ub4 := at_keep ub3 K4
      have hA4 := hA3.keep K4
      have h0 : 0 < T.length := by
        have := List.length_pos_iff.2 (avgOk_iff.1 hok).1
        simpa using this
      have KK := ((K.trans K2).trans K3).trans K4
      obtain ⟨a, y1, y2, y3⟩ := (tv0 KK).at_ (n := n) (i := 0) (z := 0) rfl (by omega) h0
      have hlen0 : (avgL (Xs T)).length = T[0].l.length := by rw [avg_len_eq, head_at h0]
      refine ⟨_, rfl, w7_2 ⟨fun h => (by cases h), fun _ => ⟨_, rfl, _, int_of ub4 rfl, w7_3 ⟨fun h => (by cases h), fun _ => ⟨_, rfl, _, sl_of ha4 rfl, _, y1, _, y2, ?_⟩⟩⟩⟩⟩
      dsimp only
      rw [hlen0, show ∀ z : Int, (z != z) = false from fun z => by simp]
      refine w7_4 ⟨fun h => (by cases h), fun _ => ?_⟩
      have ew : (avgL (Xs T)).length = ((Xs T).headD ([], 0)).1.length := avg_len_eq
      exact c7_cols hf hR hg hn hb hok (w := (avgL (Xs T)).length) ew (avgL (Xs T)).length 0 (Nat.zero_add _) KK ha4 hA4
    · have e : avgS (Xs T) = ([], 0, 2) := by unfold avgS; rw [if_neg hok]
      rw [e] at ha2 ⊢
      exact ⟨fun _ => ⟨fun _ => ⟨_, rfl, _, sl_of ha2 rfl, rfl⟩, fun h => absurd rfl h⟩, fun h => (by simp at h)⟩
  | succ j ih =>
    intro M Sl B d hj K hL
    have ha := at_keep ha0 K
    have hA := hA0.keep K
    have hjT : j < T.length := by omega
    obtain ⟨a, x1', x2', x3'⟩ := (tv0 K).at_ (n := n) (i := j) (z := ((j + 1 : Nat) : Int) - 1) (by omega) (by omega) hjT
    obtain ⟨A', c', M', g1, g2, g3, g4⟩ := hL.app hf K T[j] (by simp; omega)
    have hlen : (T.drop (j + 1)).reverse.length = n - (j + 1) := by simp [hn]
    rw [hlen] at g1
    refine w7_1 ⟨fun _ => ⟨_, x1', _, x2', _, x3', _, g1, _, rfl, ?_⟩, fun h => by omega⟩
    dsimp only
    rw [i64w (by omega), show ((j + 1 : Nat) : Int) - 1 - 1 = (j : Int) - 1 by omega, show n - (j + 1) + 1 = n - j by omega]
    have e : (T.drop (j + 1)).reverse ++ [T[j]] = (T.drop j).reverse := by
      rw [List.drop_eq_getElem_cons hjT, List.reverse_cons]
    rw [e] at g3
    exact ih (by omega) g4 g3
end
theorem law7 {W : World} {u0 u1 : Value} (s0 : Sees Try.prog (mem0 W) 1048576 8 34 [u0]) (s1 : Sees Try.prog (mem0 W) 1048576 8 3 [u1]) : Cn Try.prog 7 #[u0, u1] (mem0 W) fun v _ => v = .bool true := by
  obtain ⟨A, c, T, e, hc, hl, hAo, hR, hg⟩ := sees_tabs s0
  simp at e
  subst e
  obtain ⟨x1, e, _⟩ := sees_int (q := .i64) (by kernel_rfl) s1
  simp at e
  subst e
  have hf : (mem0 W).floor ≤ (mem0 W).nb.size := Nat.le_refl _
  generalize mem0 W = M at hg hf hR ⊢
  have hT : Tvs M A T := ⟨hR, fun t ht => ⟨(hg t ht).row, by have := (hg t ht).len; omega⟩⟩
  refine w7_0 (Cn.eq c16 ⟨_, rfl, fun h => (by cases h), fun _ => Cn.mono (c17 hf hT rfl (by omega)) fun v N h9 => h9.new hf ?_⟩)
  intro Aa ca M2 K2 z2 ua Oa hca
  have hg2 : ∀ t ∈ T, TG M2 1048576 t := fun t ht => ⟨(hg t ht).old, (hg t ht).row.keep K2, (hg t ht).len, (hg t ht).cap, (hg t ht).small, (hg t ht).kb⟩
  rw [i64w (by omega)]
  have := c7_turn (M0 := M2) (c := c) (x1 := x1) (fb hf K2) (hR.keep K2) hg2 rfl hl ua Oa.row T.length (Sl := fun _ => False) (B := none) (d := 0) (Nat.le_refl _) (.refl _) (by rw [List.drop_length]; exact ⟨Own.empty, fun _ h => h.elim⟩)
  rw [Nat.sub_self] at this
  exact this
end Go.Zt
