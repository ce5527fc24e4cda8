/- Layer 19: lists of pieces; Split of the program and of the document. -/
import Derived.Test.YtbbdggpfhcgbpaaZcN
set_option linter.unusedSimpArgs false
set_option linter.unusedVariables false
namespace Go.Zt
open Go Go.Sim Go.Proofs Go.RowKit

structure Ob where
  k : Int
  b : List Nat
  A : Option Addr
  c : Nat
abbrev Ob.cells (o : Ob) : List Value := [.int .i64 o.k, .slice o.A o.b.length o.c]
abbrev Obs (l : List Ob) : List Value := l.flatMap Ob.cells
def Ob.pc (o : Ob) : Int × List Nat := (o.k, o.b)
theorem el24 : ElemS Try.prog 24 44 2 32 (.agg #[.int .i64 0, .slice none 0 0]) := ⟨by kernel_rfl, by kernel_rfl, rfl, by decide, by decide⟩
theorem Obs_one (l : List Ob) : (Obs l).all oneCell = true := by
  rw [List.all_eq_true]
  intro v hv
  obtain ⟨d, _, hd⟩ := List.mem_flatMap.1 hv
  simp at hd
  rcases hd with rfl | rfl <;> rfl
theorem Obs_len (l : List Ob) : (Obs l).length = l.length * 2 := flat_len (f := Ob.cells) (s := 2) (fun _ => rfl) l
/-- A list that can be read. -/
def ObR (M : Mem) (A : Option Addr) (l : List Ob) : Prop := Row M A (Obs l) ∧ ∀ o ∈ l, Row M o.A (U8 o.b)
theorem ObR.at {M : Mem} {A : Option Addr} {l : List Ob} (h : ObR M A l) {n i : Nat} {z : Int} (hz : z = (i : Int)) (hn : i < n) (hi : i < l.length) :
    ∃ a, idxA A n 2 z = some a ∧ M.intAt .i64 a.block a.off = some l[i].k ∧ M.slAt a.block (a.off + 1) = some (l[i].A, l[i].b.length, l[i].c) := by
  obtain ⟨a, h1, h2⟩ := Row.flat (f := Ob.cells) (s := 2) (fun _ => rfl) h.1 (by decide) hz hn hi
  refine ⟨a, h1, cell_int (h2 0 (by decide)), ?_⟩
  have := h2 1 (by decide)
  simp only [Mem.slAt, this]; rfl
/-- A list made since b0, apart from all else: the row's blocks, and the bodies'. -/
def Ol (b0 : Nat) (M : Mem) (A : Option Addr) (c : Nat) (l : List Ob) : Prop :=
  ∃ D : Nat → Prop, (∀ i, D i → b0 ≤ i ∧ i < M.nb.size) ∧ Own D M 44 A (c * 2) (Obs l) ∧ ∀ o ∈ l, Own (fun i => b0 ≤ i ∧ i < M.nb.size ∧ ¬ D i) M 5 o.A o.c (U8 o.b)
theorem Ol.nil {b0 : Nat} {M : Mem} : Ol b0 M none 0 [] := ⟨fun _ => False, fun i h => h.elim, Own.empty, fun o h => (by cases h)⟩
theorem Ol.chg {b0 : Nat} {M N : Mem} {A : Option Addr} {c : Nat} {l : List Ob} (h : Ol b0 M A c l) {T : Nat → Prop} (K : Chg T M N) (hT : ∀ i, b0 ≤ i → i < M.nb.size → ¬ T i) : Ol b0 N A c l := by
  obtain ⟨D, h1, h2, h3⟩ := h
  exact ⟨D, fun i hi => ⟨(h1 i hi).1, Nat.lt_of_lt_of_le (h1 i hi).2 K.size⟩, h2.chg K fun i hi hs => hT i (h1 i hs).1 hi, fun o ho => ((h3 o ho).chg K fun i hi hs => hT i hs.1 hi).mono fun i _ hs => ⟨hs.1, Nat.lt_of_lt_of_le hs.2.1 K.size, hs.2.2⟩⟩
theorem Ol.keep {b0 : Nat} {M N : Mem} {A : Option Addr} {c : Nat} {l : List Ob} (h : Ol b0 M A c l) (K : Keep M N) : Ol b0 N A c l := h.chg K fun _ _ _ x => x
theorem Ol.rd {b0 : Nat} {M : Mem} {A : Option Addr} {c : Nat} {l : List Ob} (h : Ol b0 M A c l) : ObR M A l := by
  obtain ⟨D, h1, h2, h3⟩ := h
  exact ⟨h2.row, fun o ho => (h3 o ho).row⟩
theorem Ol.push {b0 : Nat} {M0 M : Mem} {A : Option Addr} {c : Nat} {l : List Ob} (h : Ol b0 M0 A c l) (K : Keep M0 M) (hf : M0.floor ≤ b0) (hb0 : b0 ≤ M0.nb.size) {o : Ob} (ho : Own (fun i => M0.nb.size ≤ i) M 5 o.A o.c (U8 o.b)) (hl : l.length ≤ 2199023255552) :
    ∃ A' c' N, appendP Try.prog #[24, 24] (.slice A l.length c) (.slice (some ⟨2 * M.nb.size, 0, none⟩) 1 1) (M.new (.cells #[.int .i64 o.k, .slice o.A o.b.length o.c] 44)) = some (.slice A' (l.length + 1) c', N) ∧ Chg (fun i => b0 ≤ i) M0 N ∧ Ol b0 N A' c' (l ++ [o]) := by
  obtain ⟨D, h1, h2, h3⟩ := h
  have hK := K.size
  have hN0 : Chg (fun _ => False) M (M.new (.cells #[.int .i64 o.k, .slice o.A o.b.length o.c] 44)) := .new _ _
  have hO : Own (fun i => D i ∨ M.nb.size ≤ i) (M.new (.cells #[.int .i64 o.k, .slice o.A o.b.length o.c] 44)) 44 A (c * 2) (Obs l) :=
    (((h2.chg K fun _ _ _ x => x).mono fun i _ hi => .inl hi)).chg hN0 fun _ _ _ x => x
  have hS : ∀ i, D i ∨ M.nb.size ≤ i → M.floor ≤ i := by
    intro i hi
    rw [K.floor]
    rcases hi with hi | hi
    · have := h1 i hi; omega
    · omega
  obtain ⟨A', c', N, g1, g2, g3, g4⟩ := append_own el24 hO (n := l.length) (Obs_len l) (Row.new M 44 (Obs [o])) (k := 1) (cx := 1) (by simp) (Obs_one [o]) hS (.inr (by rw [Mem.new_size]; omega)) (by omega)
  have hC : Chg (fun i => D i ∨ M.nb.size ≤ i) M N := (Chg.new M _).trans g2
  have hsz := hC.size
  have hall : Chg (fun i => b0 ≤ i) M0 N := (K.mono fun i _ x => x.elim).trans (hC.mono fun i _ hi => by
    rcases hi with hi | hi
    · exact (h1 i hi).1
    · omega)
  refine ⟨A', c', N, g1, hall, fun i => (D i ∨ M.nb.size ≤ i) ∧ i < N.nb.size, fun i hi => ⟨?_, hi.2⟩, ?_, fun q hq => ?_⟩
  · rcases hi.1 with h | h
    · exact (h1 i h).1
    · omega
  · have e : Obs (l ++ [o]) = Obs l ++ Obs [o] := List.flatMap_append
    rw [e]
    exact g3.mono fun i hi hs => ⟨hs, hi⟩
  · rcases List.mem_append.1 hq with hq | hq
    · refine (((h3 q hq).chg K fun _ _ _ x => x).chg hC fun i hi hs ht => ?_).mono fun i hi hs => ⟨hs.1, hi, fun hh => ?_⟩
      · rcases ht with ht | ht
        · exact hs.2.2 ht
        · omega
      · rcases hh.1 with hh | hh
        · exact hs.2.2 hh
        · omega
    · obtain rfl := List.mem_singleton.1 hq
      have ho' : Own (fun i => M0.nb.size ≤ i ∧ i < M.nb.size) M 5 q.A q.c (U8 q.b) := ho.mono fun i hi hs => ⟨hs, hi⟩
      refine (ho'.chg hC fun i hi hs ht => ?_).mono fun i hi hs => ⟨by omega, hi, fun hh => ?_⟩
      · rcases ht with ht | ht
        · have := h1 i ht; omega
        · omega
      · rcases hh.1 with hh | hh
        · have := h1 i hh; omega
        · omega
/-- A new block of two cells is filled. -/
theorem fill2 {M : Mem} {k k0 : Int} {A0 A : Option Addr} {n0 c0 n c : Nat} (hf : M.floor ≤ M.nb.size) :
    ∃ M1, (M.new (ObB k0 A0 n0 c0)).put (2 * M.nb.size) 0 (.int .i64 k) = some M1 ∧ ∃ M2, M1.put (2 * M.nb.size) 1 (.slice A n c) = some M2 ∧ Keep M M2 ∧ M2.nb[M.nb.size]? = some (ObB k A n c) := by
  obtain ⟨N, p, N2, p2, C, a⟩ := set2 (Mem.new_at M (ObB k0 A0 n0 c0)) hf k A n c
  exact ⟨N, p, N2, p2, Keep.step (Chg.new (S := fun _ => False) M _) C fun i hi => by omega, a⟩

/-! ### Split -/
def splitS : Nat → List Nat → List (Int × List Nat) × Nat × Nat
  | 0, _ => ([], 0, 0)
  | _ + 1, [] => ([], 0, 0)
  | f + 1, x :: r => if (pcS (x :: r)).2.2.2 ≠ 0 then ([], 0, (pcS (x :: r)).2.2.2) else
    let s := splitS f ((x :: r).drop (pcS (x :: r)).2.2.1)
    ((((pcS (x :: r)).1 : Nat), (pcS (x :: r)).2.1) :: s.1, (pcS (x :: r)).2.2.1 + s.2.1, s.2.2)
theorem lebL_le : ∀ (l : List Nat) (i v : Nat), (lebL l i v).2.1 = 0 → (lebL l i v).2.2 ≤ i + l.length
  | [], _, _, h => by simp [lebL] at h
  | c :: r, i, v, h => by
    unfold lebL at h ⊢
    split
    · exact Nat.zero_le _
    · rename_i h1
      rw [if_neg h1] at h
      split
      · simp
      · rename_i h2
        rw [if_neg h2] at h
        have := lebL_le r _ _ h
        simp only [List.length_cons]; omega
theorem pcS_n {x : Nat} {r : List Nat} (h : (pcS (x :: r)).2.2.2 = 0) : 1 ≤ (pcS (x :: r)).2.2.1 ∧ (pcS (x :: r)).2.2.1 ≤ (x :: r).length := by
  rw [pcS_cons] at h ⊢
  split
  · rename_i h1; rw [if_pos h1] at h; exact absurd h (by simp)
  rename_i h1; rw [if_neg h1] at h
  split
  · rename_i h2; rw [if_pos h2] at h; exact absurd h h2
  rename_i h2; rw [if_neg h2] at h
  have h2' : (lebL (r.take 5) 0 0).2.1 = 0 := by omega
  have hle := lebL_le _ _ _ h2'
  rw [List.length_take] at hle
  split
  · rename_i h3; rw [if_pos h3] at h; exact absurd h (by simp)
  rename_i h3; rw [if_neg h3] at h
  split
  · rename_i h4; rw [if_pos h4] at h; exact absurd h (by simp)
  rename_i h4
  rw [List.length_drop] at h4
  simp only [List.length_cons]
  omega
/-- What a call of Split comes to. -/
def SpR (M0 : Mem) (l : List Ob) (p : Nat) (s : List (Int × List Nat) × Nat × Nat) : Value → Mem → Prop := fun v N =>
  ∃ A c l', v = .tuple #[.slice A l'.length c, .int .i64 ((p + s.2.1 : Nat) : Int), .int .i64 (s.2.2 : Nat)] ∧ l'.map Ob.pc = l.map Ob.pc ++ s.1 ∧ Keep M0 N ∧ Ol M0.nb.size N A c l'
section
variable {M0 : Mem} {A : Option Addr} {n c : Nat} {b : List Nat}
theorem c11_loop (hf : M0.floor ≤ M0.nb.size) (hA : Row M0 A (U8 b)) (hn : n = b.length) (hb : n ≤ 2199023255552) (hc : n ≤ c) (hA0 : A = none → c = 0) (hB : Byt b) :
    ∀ (f p : Nat) (l : List Ob) (Al : Option Addr) (cl : Nat) {M : Mem}, b.length ≤ p + f → p ≤ b.length → Keep M0 M → Ol M0.nb.size M Al cl l → l.length ≤ p →
      A11_1 A n c Al l.length cl p 0 M (SpR M0 l p (splitS f (b.drop p)))
  | 0, p, l, Al, cl, M, hp, hpl, K, hL, hlp => w11_1 ⟨fun h => by omega, fun _ => w11_2 ⟨Al, cl, l, rfl, by simp [splitS], K, hL⟩⟩
  | f + 1, p, l, Al, cl, M, hp, hpl, K, hL, hlp => by
    refine w11_1 ⟨fun h => ?_, fun h => ?_⟩
    · have hlt : p < b.length := by omega
      obtain ⟨x, r, hd⟩ : ∃ x r, b.drop p = x :: r := ⟨_, _, List.drop_eq_getElem_cons hlt⟩
      obtain ⟨A1, s1, s2, s3, s4⟩ := slice_row el5 (hA.keep K) (n := n) (c := c) (l := p) (h := n) (by simp [hn]) hc hA0 (lo := some (.int .i64 (p : Nat))) (hi := none) (bound_lo rfl (by omega)) rfl (by omega) (Nat.le_refl _)
      have e1 : ((U8 b).drop (p * 1)).take ((n - p) * 1) = U8 (x :: r) := by
        rw [Nat.mul_one, Nat.mul_one, ← List.map_drop, List.take_of_length_le (by simp; omega), hd]
      rw [e1] at s2
      have hlen : n - p = (x :: r).length := by rw [← hd, List.length_drop]; omega
      refine ⟨_, s1, _, rfl, Cn.mono (c27 (n := n - p) (c := c - p) (by rw [K.floor]; exact Nat.le_trans hf K.size) s2 hlen (by omega) (by omega) s4 (fun y hy => hB y (by rw [← hd] at hy; exact List.mem_of_mem_drop hy))) ?_⟩
      rintro v N ⟨Ab, cb, n', rfl, hn', K1, hO⟩
      have KN := K.trans K1
      obtain ⟨N1, p1, N2, p2, K2, a2⟩ := fill2 (M := N) (k := ((pcS (x :: r)).1 : Nat)) (k0 := 0) (A0 := none) (A := Ab) (n0 := 0) (c0 := 0) (n := (pcS (x :: r)).2.1.length) (c := cb) (by rw [KN.floor]; exact Nat.le_trans hf KN.size)
      have K2' := K1.trans K2
      rw [hd]
      refine ⟨_, rfl, _, rfl, _, rfl, _, rfl, _, rfl, _, rfl, _, p1, _, p2, fun h0 => ?_, fun hne => ?_⟩
      · have h0' : (pcS (x :: r)).2.2.2 = 0 := by have h0 : (((pcS (x :: r)).2.2.2 : Nat) : Int) = 0 := h0; omega
        have hq := pcS_n h0'
        rw [if_pos h0'] at hn'
        obtain ⟨A', c', N3, q1, q2, q3⟩ := hL.push K2' (by rw [K.floor]; exact hf) K.size (o := ⟨((pcS (x :: r)).1 : Nat), (pcS (x :: r)).2.1, Ab, cb⟩) (hO.chg K2 fun _ _ _ x => x) (by omega)
        refine ⟨_, int_of a2 rfl, _, sl_of a2 rfl, _, q1, _, rfl, ?_⟩
        have ez : IntKind.i64.wrap ((p : Int) + (n' : Nat)) = ((p + (pcS (x :: r)).2.2.1 : Nat) : Int) := by rw [i64w (by omega)]; omega
        rw [ez]
        have hr := c11_loop hf hA hn hb hc hA0 hB f (p + (pcS (x :: r)).2.2.1) (l ++ [⟨((pcS (x :: r)).1 : Nat), (pcS (x :: r)).2.1, Ab, cb⟩]) A' c' (M := N3) (by omega) (by omega) (Keep.step K q2 fun i hi => hi) q3 (by simp; omega)
        have e5 : SpR M0 (l ++ [⟨((pcS (x :: r)).1 : Nat), (pcS (x :: r)).2.1, Ab, cb⟩]) (p + (pcS (x :: r)).2.2.1) (splitS f (b.drop (p + (pcS (x :: r)).2.2.1))) = SpR M0 l p (splitS (f + 1) (x :: r)) := by
          rw [← List.drop_drop, hd]
          unfold SpR
          rw [splitS, if_neg (by omega)]
          simp [Ob.pc, Nat.add_assoc]
        rw [e5] at hr
        simpa using hr
      · have hne' : (pcS (x :: r)).2.2.2 ≠ 0 := fun e => hne (by show (((pcS (x :: r)).2.2.2 : Nat) : Int) = 0; omega)
        refine w11_2 ⟨Al, cl, l, ?_, ?_, K.trans K2', hL.keep K2'⟩
        · rw [splitS, if_pos hne']; rfl
        · rw [splitS, if_pos hne']; simp
    · have e : b.drop p = [] := List.drop_of_length_le (by omega)
      rw [e]
      exact w11_2 ⟨Al, cl, l, rfl, by simp [splitS], K, hL⟩
theorem c12_loop (hf : M0.floor ≤ M0.nb.size) (hA : Row M0 A (U8 b)) (hn : n = b.length) (hb : n ≤ 2199023255552) (hc : n ≤ c) (hA0 : A = none → c = 0) (hB : Byt b) :
    ∀ (f p : Nat) (l : List Ob) (Al : Option Addr) (cl : Nat) {M : Mem}, b.length ≤ p + f → p ≤ b.length → Keep M0 M → Ol M0.nb.size M Al cl l → l.length ≤ p →
      A12_1 A n c Al l.length cl p M (SpR M0 l p (splitS f (b.drop p)))
  | 0, p, l, Al, cl, M, hp, hpl, K, hL, hlp => w12_1 ⟨fun h => by omega, fun _ => ⟨Al, cl, l, rfl, by simp [splitS], K, hL⟩⟩
  | f + 1, p, l, Al, cl, M, hp, hpl, K, hL, hlp => by
    refine w12_1 ⟨fun h => ?_, fun h => ?_⟩
    · have hlt : p < b.length := by omega
      obtain ⟨x, r, hd⟩ : ∃ x r, b.drop p = x :: r := ⟨_, _, List.drop_eq_getElem_cons hlt⟩
      have hlen : n - p = (x :: r).length := by rw [← hd, List.length_drop]; omega
      refine Cn.mono (c28 (by rw [K.floor]; exact Nat.le_trans hf K.size) (hA.keep K) hn (by omega) hc hA0 hB (by omega)) ?_
      rw [hd]
      rintro v N ⟨Ab, cb, n', rfl, hn', K1, hO⟩
      have KN := K.trans K1
      obtain ⟨N1, p1, N2, p2, K2, a2⟩ := fill2 (M := N) (k := ((pcS (x :: r)).1 : Nat)) (k0 := 0) (A0 := none) (A := Ab) (n0 := 0) (c0 := 0) (n := (pcS (x :: r)).2.1.length) (c := cb) (by rw [KN.floor]; exact Nat.le_trans hf KN.size)
      have K2' := K1.trans K2
      refine ⟨_, rfl, _, rfl, _, rfl, _, rfl, _, rfl, _, rfl, _, p1, _, p2, fun hne => ?_, fun h0 => ?_⟩
      · have hne' : (pcS (x :: r)).2.2.2 ≠ 0 := fun e => hne (by show (((pcS (x :: r)).2.2.2 : Nat) : Int) = 0; omega)
        refine ⟨Al, cl, l, ?_, ?_, K.trans K2', hL.keep K2'⟩
        · rw [splitS, if_pos hne']; rfl
        · rw [splitS, if_pos hne']; simp
      · have h0' : (pcS (x :: r)).2.2.2 = 0 := by have h0 : (((pcS (x :: r)).2.2.2 : Nat) : Int) = 0 := h0; omega
        have hq := pcS_n h0'
        rw [if_pos h0'] at hn'
        obtain ⟨A', c', N3, q1, q2, q3⟩ := hL.push K2' (by rw [K.floor]; exact hf) K.size (o := ⟨((pcS (x :: r)).1 : Nat), (pcS (x :: r)).2.1, Ab, cb⟩) (hO.chg K2 fun _ _ _ x => x) (by omega)
        refine ⟨_, int_of a2 rfl, _, sl_of a2 rfl, _, q1, _, rfl, ?_⟩
        rw [hn']
        have hr := c12_loop hf hA hn hb hc hA0 hB f (p + (pcS (x :: r)).2.2.1) (l ++ [⟨((pcS (x :: r)).1 : Nat), (pcS (x :: r)).2.1, Ab, cb⟩]) A' c' (M := N3) (by omega) (by omega) (Keep.step K q2 fun i hi => hi) q3 (by simp; omega)
        have e5 : SpR M0 (l ++ [⟨((pcS (x :: r)).1 : Nat), (pcS (x :: r)).2.1, Ab, cb⟩]) (p + (pcS (x :: r)).2.2.1) (splitS f (b.drop (p + (pcS (x :: r)).2.2.1))) = SpR M0 l p (splitS (f + 1) (x :: r)) := by
          rw [← List.drop_drop, hd]
          unfold SpR
          rw [splitS, if_neg (by omega)]
          simp [Ob.pc, Nat.add_assoc]
        rw [e5] at hr
        simpa using hr
    · have e : b.drop p = [] := List.drop_of_length_le (by omega)
      rw [e]
      exact ⟨Al, cl, l, rfl, by simp [splitS], K, hL⟩
theorem c11 (hf : M0.floor ≤ M0.nb.size) (hA : Row M0 A (U8 b)) (hn : n = b.length) (hb : n ≤ 2199023255552) (hc : n ≤ c) (hA0 : A = none → c = 0) (hB : Byt b) :
    Cn Try.prog 11 #[.slice A n c] M0 (SpR M0 [] 0 (splitS b.length b)) :=
  w11_0 (c11_loop hf hA hn hb hc hA0 hB b.length 0 [] none 0 (by omega) (by omega) (.refl _) Ol.nil (Nat.le_refl _))
theorem c12 (hf : M0.floor ≤ M0.nb.size) (hA : Row M0 A (U8 b)) (hn : n = b.length) (hb : n ≤ 2199023255552) (hc : n ≤ c) (hA0 : A = none → c = 0) (hB : Byt b) :
    Cn Try.prog 12 #[.slice A n c] M0 (SpR M0 [] 0 (splitS b.length b)) :=
  w12_0 (c12_loop hf hA hn hb hc hA0 hB b.length 0 [] none 0 (by omega) (by omega) (.refl _) Ol.nil (Nat.le_refl _))
end
end Go.Zt
