/- Layer 3: Average. -/
import Derived.Test.YtbnhbmkoghnjhaaZhH
import Derived.Test.YtbnhbmkoghnjhaaZhDa
set_option linter.unusedSimpArgs false
set_option linter.unusedVariables false
set_option maxRecDepth 100000
namespace Go.Zt
open Go Go.Sim Go.Proofs Go.RowKit

/-- A table as a variable holds it. -/
structure Tv where
  A : Option Addr
  c : Nat
  l : List Nat
  k : Int
def tvC (t : Tv) : List Value := [.slice t.A t.l.length t.c, .int .i64 t.k]
theorem tvC_len (t : Tv) : (tvC t).length = 2 := rfl
abbrev Tv.x (t : Tv) : List Nat × Int := (t.l, t.k)
/-- Tables that lie there. -/
structure Tvs (M : Mem) (A : Option Addr) (T : List Tv) : Prop where
  row : Row M A (T.flatMap tvC)
  each : ∀ t ∈ T, Row M t.A (uL t.l) ∧ t.l.length ≤ 1099511627776
theorem Tvs.keep {M N : Mem} {A : Option Addr} {T : List Tv} (h : Tvs M A T) (K : Keep M N) : Tvs N A T := ⟨h.row.keep K, fun t ht => ⟨(h.each t ht).1.keep K, (h.each t ht).2⟩⟩
theorem Tvs.at_ {M : Mem} {A : Option Addr} {T : List Tv} (h : Tvs M A T) {n i : Nat} {z : Int} (hz : z = (i : Int)) (hn : i < n) (hi : i < T.length) :
    ∃ a, idxA A n 2 z = some a ∧ M.slAt a.block a.off = some (T[i].A, T[i].l.length, T[i].c) ∧ M.intAt .i64 a.block (a.off + 1) = some T[i].k := by
  obtain ⟨a, a1, a2⟩ := h.row.flat tvC_len (by decide) hz hn hi
  exact ⟨a, a1, cell_sl (a2 0 (by decide)), cell_int (a2 1 (by decide))⟩
abbrev Xs (T : List Tv) : List (List Nat × Int) := T.map Tv.x
def avgOk (X : List (List Nat × Int)) : Bool := match X with
  | [] => false
  | x :: _ => X.all fun y => checkS y.1 y.2 == 0 && y.1.length == x.1.length
def colS (X : List (List Nat × Int)) (q : Nat) : Nat := (X.map fun y => gn y.1 q).sum
def avgV (X : List (List Nat × Int)) (q : Nat) : Nat := (X.length / 2 + colS X q) / X.length
def avgL (X : List (List Nat × Int)) : List Nat := (List.range (X.headD ([], 0)).1.length).map (avgV X)
def avgS (X : List (List Nat × Int)) : List Nat × Int × Nat := if avgOk X then (avgL X, 0, 0) else ([], 0, 2)
theorem avgOk_iff {X : List (List Nat × Int)} : avgOk X = true ↔ X ≠ [] ∧ ∀ y ∈ X, Okt y.1 y.2 ∧ y.1.length = (X.headD ([], 0)).1.length := by
  cases X with
  | nil => simp [avgOk]
  | cons x X =>
    unfold avgOk
    simp only [List.all_eq_true, Bool.and_eq_true, beq_iff_eq, check_0, List.headD_cons]
    exact ⟨fun h => ⟨by simp, h⟩, fun h => h.2⟩
theorem col_le {X : List (List Nat × Int)} {B : Nat} {q : Nat} (h : ∀ y ∈ X, gn y.1 q ≤ B) : colS X q ≤ X.length * B := by
  unfold colS
  induction X with
  | nil => simp
  | cons x X ih =>
    have := ih fun y hy => h y (List.mem_cons_of_mem _ hy)
    have h2 := h x (List.mem_cons_self ..)
    rw [List.map_cons, List.sum_cons, List.length_cons, Nat.add_mul, Nat.one_mul]; omega
theorem avgV_b {X : List (List Nat × Int)} (h : avgOk X = true) (q : Nat) : avgV X q ≤ 32768 := by
  obtain ⟨h1, h2⟩ := avgOk_iff.1 h
  have hl : 0 < X.length := List.length_pos_iff.2 h1
  have := col_le (X := X) (q := q) (B := 32768) fun y hy => (h2 y hy).1.le q
  unfold avgV
  refine Nat.le_of_lt_succ ((Nat.div_lt_iff_lt_mul hl).2 ?_)
  rw [Nat.succ_mul, Nat.mul_comm 32768]; omega
theorem col_take {X : List (List Nat × Int)} {i q : Nat} (h : i < X.length) : colS (X.take (i + 1)) q = colS (X.take i) q + gn X[i].1 q := by
  unfold colS
  rw [List.take_succ_eq_append_getElem h, List.map_append, List.sum_append]; simp
theorem col_take_le {X : List (List Nat × Int)} {i q : Nat} (h : avgOk X = true) : colS (X.take i) q ≤ X.length * 32768 := by
  have := col_le (X := X.take i) (q := q) (B := 32768) fun y hy => ((avgOk_iff.1 h).2 y (List.mem_of_mem_take hy)).1.le q
  have h2 : (X.take i).length * 32768 ≤ X.length * 32768 := Nat.mul_le_mul_right _ (by rw [List.length_take]; omega)
  omega
theorem avgOk_bad {X : List (List Nat × Int)} {i : Nat} (hi : i < X.length) (h : ¬ (Okt X[i].1 X[i].2 ∧ X[i].1.length = (X.headD ([], 0)).1.length)) : avgOk X = false := by
  rw [← Bool.not_eq_true, avgOk_iff]
  intro hh; exact h (hh.2 _ (List.getElem_mem hi))
section
variable {M : Mem} {A : Option Addr} {n c : Nat} {T : List Tv}
theorem avg_all (h0 : T ≠ []) (hs : ∀ j (hj : j < T.length), Okt T[j].l T[j].k ∧ T[j].l.length = ((Xs T).headD ([], 0)).1.length) : avgOk (Xs T) = true := by
  rw [avgOk_iff]
  refine ⟨by simpa using h0, fun y hy => ?_⟩
  obtain ⟨j, hj, rfl⟩ := List.getElem_of_mem hy
  have hj' : j < T.length := by simpa using hj
  simp only [List.getElem_map]
  exact hs j hj'
theorem head_at (h : 0 < T.length) : ((Xs T).headD ([], 0)).1.length = T[0].l.length := by
  cases T with
  | nil => cases h
  | cons t T => rfl
theorem c17 (hf : M.floor ≤ M.nb.size) (hT : Tvs M A T) (hn : n = T.length) (hb : n ≤ 1099511627776) : Cn Try.prog 17 #[.slice A n c] M (TbR M (avgS (Xs T))) := by
  have a0 := newI (M := M) none 0 0 0
  have K0 : Keep M (M.new (tcells none 0 0 0)) := .new _ _
  refine w17_0 ?_
  generalize M.new (tcells none 0 0 0) = N at a0 K0 ⊢
  refine ⟨fun h => ?_, fun h => ?_⟩
  · have : T = [] := List.length_eq_zero_iff.1 (by omega)
    subst this
    exact packE hf K0 a0 (Nat.le_refl _)
  have hT0 : 0 < T.length := by omega
  have hne : T ≠ [] := List.length_pos_iff.1 hT0
  obtain ⟨a, x1, x2, x3⟩ := (hT.keep K0).at_ (n := n) (i := 0) (z := 0) rfl (by omega) hT0
  refine ⟨_, x1, _, x2, ?_⟩
  dsimp only
  rw [← head_at hT0]
  have hbn : ((Xs T).headD ([], 0)).1.length ≤ 1099511627776 := by
    rw [head_at hT0]; exact (hT.each _ (List.getElem_mem hT0)).2
  generalize hm : ((Xs T).headD ([], 0)).1.length = m at hbn ⊢
  -- the second half: the sums
  have sums : avgOk (Xs T) = true → ∀ {N : Mem}, Keep M N → N.nb[M.nb.size]? = some (tcells none 0 0 0) → A17_1 A n c (some ⟨2 * M.nb.size, 0, none⟩) (m : Nat) A n c (n : Nat) (n : Nat) N (TbR M (avgS (Xs T))) := by
    intro hok N K h2
    have hall := (avgOk_iff.1 hok).2
    unfold avgS; rw [if_pos hok]
    have hlen : (avgL (Xs T)).length = m := by unfold avgL; rw [List.length_map, List.length_range, hm]
    have eL : avgL (Xs T) = (List.range m).map (avgV (Xs T)) := by unfold avgL; rw [hm]
    have hX : (Xs T).length = n := by rw [List.length_map]; omega
    obtain ⟨B, M2, g1, M3, p1, M4, p2, KM, KN, u, hj4, hne4, hO⟩ := mkT hf K (n := m) hbn (Nat.le_refl _) (lt_of_at h2)
    refine w17_1 ⟨fun h => by omega, fun _ => ⟨_, g1, _, rfl, _, p1, _, p2, _, sl_of u rfl, ?_⟩⟩
    dsimp only
    have loop : ∀ (t q : Nat) {N : Mem}, q + t = m → Keep M N → N.nb[M.nb.size]? = some (tcells none 0 0 0) → N.nb[M2.nb.size]? = some (tcells B m m 0) → Own (fun p => p < M4.nb.size ∧ M.nb.size ≤ p ∧ p ≠ M.nb.size ∧ p ≠ M2.nb.size) N 47 B m (uL (mixL (avgV (Xs T)) (fun _ => 0) m q)) → M4.nb.size ≤ N.nb.size →
        A17_3 A n c (some ⟨2 * M.nb.size, 0, none⟩) (some ⟨2 * M2.nb.size, 0, none⟩) (m : Nat) (q : Nat) N (TbR M (avgL (Xs T), 0, 0)) := by
      intro t
      induction t with
      | zero =>
        intro q N hq K h2 h4 hO hsz
        obtain rfl : m = q := by omega
        rw [mixL_n, ← eL] at hO
        exact w17_3 ⟨fun h => by omega, fun _ => packT hf K h2 h4 (Nat.le_refl _) (hO.mono fun p _ h => ⟨h.2.1, h.2.2.1⟩) hlen.symm rfl rfl (Nat.le_refl _)⟩
      | succ t ih =>
        intro q N hq K h2 h4 hO hsz
        have inner : ∀ (t2 i : Nat) {N : Mem}, i + t2 = n → Keep M N → N.nb[M.nb.size]? = some (tcells none 0 0 0) → N.nb[M2.nb.size]? = some (tcells B m m 0) → Own (fun p => p < M4.nb.size ∧ M.nb.size ≤ p ∧ p ≠ M.nb.size ∧ p ≠ M2.nb.size) N 47 B m (uL (mixL (avgV (Xs T)) (fun _ => 0) m q)) → M4.nb.size ≤ N.nb.size →
            A17_4 A n c (some ⟨2 * M.nb.size, 0, none⟩) (some ⟨2 * M2.nb.size, 0, none⟩) (q : Nat) ((n / 2 + colS ((Xs T).take i) q : Nat) : Int) (m : Nat) (q : Nat) A n c (n : Nat) (i : Nat) N (TbR M (avgL (Xs T), 0, 0)) := by
          intro t2
          induction t2 with
          | zero =>
            intro i N hi K h2 h4 hO hsz
            obtain rfl : n = i := by omega
            rw [List.take_of_length_le (by omega)]
            have hav := avgV_b hok q
            obtain ⟨a, b1, M', b2, b3, b4, b5⟩ := hO.put1 (fun p hp => by rw [K.floor]; omega) (n := m) (i := q) (z := ((q : Nat) : Int)) (v := .int .u16 ((avgV (Xs T) q : Nat) : Int)) rfl (by omega) (by rw [List.length_map, mixL_len]; omega) rfl
            have ev : (n / 2 + colS (Xs T) q) / n = avgV (Xs T) q := by unfold avgV; rw [hX]
            refine w17_4 ⟨fun h => by omega, fun _ => ⟨_, rfl, _, sl_of h4 rfl, _, binV_quo (by omega), _, rfl, _, b1, ?_⟩⟩
            rw [tdivN, ev, i64w (by omega), u16w (by omega)]
            refine ⟨_, b2, ?_⟩
            rw [i64w (by omega), show ((q : Int) + 1) = ((q + 1 : Nat) : Int) by omega]
            rw [uL_set, mixL_set] at b5
            exact ih (q + 1) (by omega) (Keep.step K b3 fun p hp => hp.2.1) (at_chg h2 b3 (by omega)) (at_chg h4 b3 (by omega)) b5 (by rw [b4]; exact hsz)
          | succ t2 ih2 =>
            intro i N hi K h2 h4 hO hsz
            have hiT : i < T.length := by omega
            obtain ⟨a, x1, x2, x3⟩ := (hT.keep K).at_ (n := n) (i := i) (z := ((i : Nat) : Int)) rfl (by omega) hiT
            have d0 := Mem.new_at N (tcells none 0 0 0)
            have Kd : Keep N (N.new (tcells none 0 0 0)) := .new _ _
            obtain ⟨M5, y1, M6, y2, C7, s7, u7⟩ := put2 (A := T[i].A) (n := T[i].l.length) (c := T[i].c) (k := T[i].k) d0 (by rw [(K.trans Kd).floor]; have := K.size; omega)
            have K7 : Keep N M6 := Keep.step Kd C7 fun p hp => by rw [hp]; exact Nat.le_refl _
            obtain ⟨e1, e2⟩ := hall (T[i].l, T[i].k) (List.mem_map.2 ⟨T[i], List.getElem_mem hiT, rfl⟩)
            have e2 : T[i].l.length = m := by rw [← hm]; exact e2
            have hle := e1.le q
            obtain ⟨b, z1, z2⟩ := (((hT.each _ (List.getElem_mem hiT)).1.keep K).keep K7).u16 (n := T[i].l.length) (i := q) (z := ((q : Nat) : Int)) rfl rfl (by omega)
            refine w17_4 ⟨fun _ => ⟨_, x1, _, x2, _, x3, _, y1, _, y2, _, sl_of u7 rfl, _, z1, _, z2, ?_⟩, fun h => by omega⟩
            have hcl := col_take_le (i := i) (q := q) hok
            have hct := col_take (X := Xs T) (i := i) (q := q) (by omega)
            have hg : (Xs T)[i].1 = T[i].l := by simp
            rw [hg] at hct
            have hX2 : (Xs T).length * 32768 ≤ 1099511627776 * 32768 := Nat.mul_le_mul_right _ (by omega)
            have ew : IntKind.i64.wrap (((n / 2 + colS ((Xs T).take i) q : Nat) : Int) + IntKind.i64.wrap ((gn T[i].l q : Nat) : Int)) = ((n / 2 + colS ((Xs T).take (i + 1)) q : Nat) : Int) := by
              rw [hct]
              generalize colS ((Xs T).take i) q = z at hcl ⊢
              have hle : gn T[i].l q ≤ 32768 := hle
              generalize gn T[i].l q = g at hle ⊢
              rw [i64w (x := ((g : Nat) : Int)) (by omega), i64w (by omega)]; omega
            rw [ew, i64w (by omega), show ((i : Int) + 1) = ((i + 1 : Nat) : Int) by omega]
            exact ih2 (i + 1) (by omega) (K.trans K7) (at_keep h2 K7) (at_keep h4 K7) (hO.chg K7 fun _ _ _ h => h) (Nat.le_trans hsz K7.size)
        refine w17_3 ⟨fun _ => ?_, fun h => by omega⟩
        have := inner n 0 (Nat.zero_add _) K h2 h4 hO hsz
        have e0 : ((n / 2 + colS ((Xs T).take 0) q : Nat) : Int) = IntKind.i64.wrap (((n : Nat) : Int).tdiv 2) := by
          rw [show (2 : Int) = ((2 : Nat) : Int) from rfl, tdivN, i64w (by omega)]; simp [colS]
        rw [e0] at this
        exact this
    exact loop m 0 (Nat.zero_add _) KM (at_keep h2 KN) u (by rw [mixL_0]; exact hO.mono fun p hp h => ⟨hp, h⟩) (Nat.le_refl _)
  -- the first half: may they be?
  have loop : ∀ (t i : Nat) {N : Mem}, i + t = n → Keep M N → N.nb[M.nb.size]? = some (tcells none 0 0 0) → (∀ j (hj : j < T.length), j < i → Okt T[j].l T[j].k ∧ T[j].l.length = m) → A17_1 A n c (some ⟨2 * M.nb.size, 0, none⟩) (m : Nat) A n c (n : Nat) (i : Nat) N (TbR M (avgS (Xs T))) := by
    intro t
    induction t with
    | zero =>
      intro i N hi K h2 hs
      obtain rfl : n = i := by omega
      exact sums (avg_all hne fun j hj => by rw [hm]; exact hs j hj (by omega)) K h2
    | succ t ih =>
      intro i N hi K h2 hs
      have hiT : i < T.length := by omega
      obtain ⟨a, x1, x2, x3⟩ := (hT.keep K).at_ (n := n) (i := i) (z := ((i : Nat) : Int)) rfl (by omega) hiT
      have d0 := Mem.new_at N (tcells none 0 0 0)
      have Kd : Keep N (N.new (tcells none 0 0 0)) := .new _ _
      obtain ⟨M5, y1, M6, y2, C7, s7, u7⟩ := put2 (A := T[i].A) (n := T[i].l.length) (c := T[i].c) (k := T[i].k) d0 (by rw [(K.trans Kd).floor]; have := K.size; omega)
      have K7 : Keep N M6 := Keep.step Kd C7 fun p hp => by rw [hp]; exact Nat.le_refl _
      have hrow := ((hT.each _ (List.getElem_mem hiT)).1.keep K).keep K7
      refine w17_1 ⟨fun _ => ⟨_, x1, _, x2, _, x3, _, y1, _, y2, _, sl_of u7 rfl, _, int_of u7 rfl, Cn.mono (c19 hrow rfl (hT.each _ (List.getElem_mem hiT)).2) ?_⟩, fun h => by omega⟩
      rintro _ R ⟨rfl, KR⟩
      have K8 := K7.trans KR
      have bad : ¬ (Okt T[i].l T[i].k ∧ T[i].l.length = m) → A17_2 A n c (some ⟨2 * M.nb.size, 0, none⟩) (m : Nat) A n c (n : Nat) (i : Nat) true R (TbR M (avgS (Xs T))) := by
        intro hh
        have : avgOk (Xs T) = false := avgOk_bad (i := i) (by simpa using hiT) (by rw [hm]; simpa using hh)
        unfold avgS; rw [this]
        refine w17_2 ⟨fun _ => ?_, fun h => by cases h⟩
        obtain ⟨M1, p1, M2, p2, s, e1, x, e2, hh⟩ := packE hf (K.trans K8) (at_keep h2 K8) (Nat.le_refl _)
        exact ⟨_, rfl, _, p1, _, p2, _, rfl, _, e1, _, e2, hh⟩
      refine ⟨_, rfl, fun h => bad fun hh => ?_, fun h => ⟨_, sl_of (at_keep u7 KR) rfl, ?_⟩⟩
      · rw [check_0.2 hh.1] at h; exact h rfl
      · have ho := check_0.1 (show checkS T[i].l T[i].k = 0 by omega)
        dsimp only
        by_cases e : T[i].l.length = m
        · rw [show (((T[i].l.length : Nat) : Int) != (m : Nat)) = false by rw [e]; simp]
          refine w17_2 ⟨fun h => (by cases h), fun _ => ?_⟩
          rw [i64w (by omega), show ((i : Int) + 1) = ((i + 1 : Nat) : Int) by omega]
          refine ih (i + 1) (by omega) (K.trans K8) (at_keep h2 K8) fun j hj hji => ?_
          by_cases e2 : j = i
          · subst e2; exact ⟨ho, e⟩
          · exact hs j hj (by omega)
        · rw [show (((T[i].l.length : Nat) : Int) != (m : Nat)) = true by simp; omega]
          exact bad fun hh => e hh.2
  exact loop n 0 (Nat.zero_add _) K0 a0 fun j hj h => by omega
theorem c18 (hf : M.floor ≤ M.nb.size) (hT : Tvs M A T) (hn : n = T.length) (hb : n ≤ 1099511627776) : Cn Try.prog 18 #[.slice A n c] M (TbR M (avgS (Xs T))) := by
  have a0 := newI (M := M) none 0 0 0
  have K0 : Keep M (M.new (tcells none 0 0 0)) := .new _ _
  refine w18_0 ?_
  generalize M.new (tcells none 0 0 0) = N at a0 K0 ⊢
  refine ⟨fun h => ?_, fun h => ?_⟩
  · have : T = [] := List.length_eq_zero_iff.1 (by omega)
    subst this
    exact packE hf K0 a0 (Nat.le_refl _)
  have hT0 : 0 < T.length := by omega
  have hne : T ≠ [] := List.length_pos_iff.1 hT0
  have hbn : ((Xs T).headD ([], 0)).1.length ≤ 1099511627776 := by
    rw [head_at hT0]; exact (hT.each _ (List.getElem_mem hT0)).2
  have hm0 := head_at hT0
  generalize hm : ((Xs T).headD ([], 0)).1.length = m at hbn hm0
  have sums : avgOk (Xs T) = true → ∀ {N : Mem}, Keep M N → N.nb[M.nb.size]? = some (tcells none 0 0 0) → A18_1 A n c (some ⟨2 * M.nb.size, 0, none⟩) (n : Nat) N (TbR M (avgS (Xs T))) := by
    intro hok N K h2
    have hall := (avgOk_iff.1 hok).2
    unfold avgS; rw [if_pos hok]
    have hlen : (avgL (Xs T)).length = m := by unfold avgL; rw [List.length_map, List.length_range, hm]
    have eL : avgL (Xs T) = (List.range m).map (avgV (Xs T)) := by unfold avgL; rw [hm]
    have hX : (Xs T).length = n := by rw [List.length_map]; omega
    refine w18_1 ⟨fun h => by omega, fun _ => ?_⟩
    have b0 := newI (M := N) none 0 0 0
    have K1 : Keep N (N.new (tcells none 0 0 0)) := .new _ _
    have hj := lt_of_at h2
    generalize N.new (tcells none 0 0 0) = N1 at b0 K1 ⊢
    have loop : ∀ (t q : Nat) (B : Option Addr) (d : Nat) {R : Mem}, q + t = m → q ≤ d → Keep M R → R.nb[M.nb.size]? = some (tcells none 0 0 0) → R.nb[N.nb.size]? = some (tcells B q d 0) → Own (fun p => M.nb.size ≤ p ∧ p ≠ M.nb.size ∧ p ≠ N.nb.size) R 47 B d (uL ((List.range q).map (avgV (Xs T)))) →
        A18_3 A n c (some ⟨2 * M.nb.size, 0, none⟩) (some ⟨2 * N.nb.size, 0, none⟩) (q : Nat) R (TbR M (avgL (Xs T), 0, 0)) := by
      intro t
      induction t with
      | zero =>
        intro q B d R hq hd K h2 h4 hO
        obtain rfl : m = q := by omega
        rw [← eL] at hO
        obtain ⟨a, x1, x2, x3⟩ := (hT.keep K).at_ (n := n) (i := 0) (z := 0) rfl (by omega) hT0
        refine w18_3 ⟨_, x1, _, x2, fun h => ?_, fun _ => packT hf K h2 h4 (Nat.le_refl _) (hO.mono fun p _ h => ⟨h.1, h.2.1⟩) hlen.symm rfl rfl hd⟩
        have h : ((m : Nat) : Int) < (T[0].l.length : Nat) := h
        omega
      | succ t ih =>
        intro q B d R hq hd K h2 h4 hO
        obtain ⟨a, x1, x2, x3⟩ := (hT.keep K).at_ (n := n) (i := 0) (z := 0) rfl (by omega) hT0
        have hR4 := lt_of_at h4
        have hR2 := lt_of_at h2
        have inner : ∀ (t2 i : Nat), i + t2 = n → A18_4 A n c (some ⟨2 * M.nb.size, 0, none⟩) (some ⟨2 * N.nb.size, 0, none⟩) (q : Nat) ((n / 2 + colS ((Xs T).take i) q : Nat) : Int) (i : Nat) R (TbR M (avgL (Xs T), 0, 0)) := by
          intro t2
          induction t2 with
          | zero =>
            intro i hi
            obtain rfl : n = i := by omega
            rw [List.take_of_length_le (by omega)]
            have hav := avgV_b hok q
            have ev : (n / 2 + colS (Xs T) q) / n = avgV (Xs T) q := by unfold avgV; rw [hX]
            obtain ⟨A', c', M', g1, M2, g2, g3, g4, g5, g6, g7⟩ := appT (S := fun _ => True) hf K (j := N.nb.size) (v := avgV (Xs T) q) (fun _ _ _ _ => trivial) h4 (by omega) (T := fun p => M.nb.size ≤ p ∧ p ≠ M.nb.size ∧ p ≠ N.nb.size) (fun q hq => by omega) (fun q hq => ⟨hq.1, hq.2.2⟩) hO (by simp) (by omega)
            refine w18_4 ⟨fun h => by omega, fun _ => ⟨_, rfl, _, sl_of h4 rfl, _, binV_quo (by omega), _, rfl, ?_⟩⟩
            rw [tdivN, ev, i64w (by omega), u16w (by omega)]
            refine ⟨_, g1, _, rfl, _, rfl, _, g2, ?_⟩
            rw [i64w (by omega), show ((q : Int) + 1) = ((q + 1 : Nat) : Int) by omega]
            refine ih (q + 1) A' c' (by omega) g7 g3 (at_chg h2 g4 (by omega)) g5 ?_
            rw [range_map_succ]; exact g6
          | succ t2 ih2 =>
            intro i hi
            have hiT : i < T.length := by omega
            obtain ⟨a, x1, x2, x3⟩ := (hT.keep K).at_ (n := n) (i := i) (z := ((i : Nat) : Int)) rfl (by omega) hiT
            obtain ⟨e1, e2⟩ := hall (T[i].l, T[i].k) (List.mem_map.2 ⟨T[i], List.getElem_mem hiT, rfl⟩)
            have e2 : T[i].l.length = m := by rw [← hm]; exact e2
            have hle := e1.le q
            obtain ⟨b, z1, z2⟩ := ((hT.each _ (List.getElem_mem hiT)).1.keep K).u16 (n := T[i].l.length) (i := q) (z := ((q : Nat) : Int)) rfl rfl (by omega)
            refine w18_4 ⟨fun _ => ⟨_, x1, _, x2, _, z1, _, z2, ?_⟩, fun h => by omega⟩
            have hcl := col_take_le (i := i) (q := q) hok
            have hct := col_take (X := Xs T) (i := i) (q := q) (by omega)
            have hg : (Xs T)[i].1 = T[i].l := by simp
            rw [hg] at hct
            have hX2 : (Xs T).length * 32768 ≤ 1099511627776 * 32768 := Nat.mul_le_mul_right _ (by omega)
            have ew : IntKind.i64.wrap (((n / 2 + colS ((Xs T).take i) q : Nat) : Int) + IntKind.i64.wrap ((gn T[i].l q : Nat) : Int)) = ((n / 2 + colS ((Xs T).take (i + 1)) q : Nat) : Int) := by
              rw [hct]
              generalize colS ((Xs T).take i) q = z at hcl ⊢
              have hle : gn T[i].l q ≤ 32768 := hle
              generalize gn T[i].l q = g at hle ⊢
              rw [i64w (x := ((g : Nat) : Int)) (by omega), i64w (by omega)]; omega
            rw [ew, i64w (by omega), show ((i : Int) + 1) = ((i + 1 : Nat) : Int) by omega]
            exact ih2 (i + 1) (by omega)
        refine w18_3 ⟨_, x1, _, x2, fun _ => ?_, fun h => ?_⟩
        · have := inner n 0 (Nat.zero_add _)
          have e0 : ((n / 2 + colS ((Xs T).take 0) q : Nat) : Int) = IntKind.i64.wrap (((n : Nat) : Int).tdiv 2) := by
            rw [show (2 : Int) = ((2 : Nat) : Int) from rfl, tdivN, i64w (by omega)]; simp [colS]
          rw [e0] at this
          exact this
        · have h : ¬ ((q : Nat) : Int) < (T[0].l.length : Nat) := h
          omega
    exact loop m 0 none 0 (Nat.zero_add _) (Nat.le_refl _) (K.trans K1) (at_keep h2 K1) b0 Own.empty
  have loop : ∀ (t i : Nat) {N : Mem}, i + t = n → Keep M N → N.nb[M.nb.size]? = some (tcells none 0 0 0) → (∀ j (hj : j < T.length), j < i → Okt T[j].l T[j].k ∧ T[j].l.length = m) → A18_1 A n c (some ⟨2 * M.nb.size, 0, none⟩) (i : Nat) N (TbR M (avgS (Xs T))) := by
    intro t
    induction t with
    | zero =>
      intro i N hi K h2 hs
      obtain rfl : n = i := by omega
      exact sums (avg_all hne fun j hj => by rw [hm]; exact hs j hj (by omega)) K h2
    | succ t ih =>
      intro i N hi K h2 hs
      have hiT : i < T.length := by omega
      obtain ⟨a, x1, x2, x3⟩ := (hT.keep K).at_ (n := n) (i := i) (z := ((i : Nat) : Int)) rfl (by omega) hiT
      have hrow := (hT.each _ (List.getElem_mem hiT)).1.keep K
      refine w18_1 ⟨fun _ => ⟨_, x1, _, x2, _, x3, Cn.mono (c29 hrow rfl (hT.each _ (List.getElem_mem hiT)).2) ?_⟩, fun h => by omega⟩
      rintro _ R ⟨rfl, KR⟩
      have bad : ¬ (Okt T[i].l T[i].k ∧ T[i].l.length = m) → A18_2 A n c (some ⟨2 * M.nb.size, 0, none⟩) (i : Nat) true R (TbR M (avgS (Xs T))) := by
        intro hh
        have : avgOk (Xs T) = false := avgOk_bad (i := i) (by simpa using hiT) (by rw [hm]; simpa using hh)
        unfold avgS; rw [this]
        refine w18_2 ⟨fun _ => ?_, fun h => by cases h⟩
        obtain ⟨M1, p1, M2, p2, s, e1, x, e2, hh⟩ := packE hf (K.trans KR) (at_keep h2 KR) (Nat.le_refl _)
        exact ⟨_, rfl, _, p1, _, p2, _, rfl, _, e1, _, e2, hh⟩
      obtain ⟨a', x1', x2', x3'⟩ := (hT.keep (K.trans KR)).at_ (n := n) (i := i) (z := ((i : Nat) : Int)) rfl (by omega) hiT
      obtain ⟨a0', y1, y2, y3⟩ := (hT.keep (K.trans KR)).at_ (n := n) (i := 0) (z := 0) rfl (by omega) hT0
      refine ⟨_, rfl, fun h => bad fun hh => ?_, fun h => ⟨_, x1', _, x2', _, y1, _, y2, ?_⟩⟩
      · rw [check_0.2 hh.1] at h; exact h rfl
      · have ho := check_0.1 (show checkS T[i].l T[i].k = 0 by omega)
        dsimp only
        by_cases e : T[i].l.length = m
        · rw [show (((T[i].l.length : Nat) : Int) != ((T[0].l.length : Nat) : Int)) = false by rw [e, ← hm0]; simp]
          refine w18_2 ⟨fun h => (by cases h), fun _ => ?_⟩
          rw [i64w (by omega), show ((i : Int) + 1) = ((i + 1 : Nat) : Int) by omega]
          refine ih (i + 1) (by omega) (K.trans KR) (at_keep h2 KR) fun j hj hji => ?_
          by_cases e2 : j = i
          · subst e2; exact ⟨ho, e⟩
          · exact hs j hj (by omega)
        · rw [show (((T[i].l.length : Nat) : Int) != ((T[0].l.length : Nat) : Int)) = true by simp; omega]
          exact bad fun hh => e hh.2
  exact loop n 0 (Nat.zero_add _) K0 a0 fun j hj h => by omega
end
end Go.Zt
