/- Layer 3: arguments; parts; answers in variables; lists of tables. -/
import Derived.Test.YtbnhbmkoghnjhaaZhJ
set_option linter.unusedSimpArgs false
set_option linter.unusedVariables false
set_option maxRecDepth 100000
namespace Go.Zt
open Go Go.Sim Go.Proofs Go.RowKit

theorem wf_u16 {x : Int} (h : (Lit.int .u16 x).wf = true) : 0 ≤ x ∧ x ≤ 65535 := by
  simp [Lit.wf, IntKind.min, IntKind.max, IntKind.signed, IntKind.bits] at h
  omega
theorem wf_u32 {x : Int} (h : (Lit.int .u32 x).wf = true) : 0 ≤ x ∧ x ≤ 4294967295 := by
  simp [Lit.wf, IntKind.min, IntKind.max, IntKind.signed, IntKind.bits] at h
  omega
theorem wf_i64 {x : Int} (h : (Lit.int .i64 x).wf = true) : -9223372036854775808 ≤ x ∧ x ≤ 9223372036854775807 := by
  simp [Lit.wf, IntKind.min, IntKind.max, IntKind.signed, IntKind.bits] at h
  omega
section
variable {M : Mem} {B k : Nat}
theorem sees_u16s {r : List Value} (h : Sees Try.prog M B (k + 2) 22 r) : ∃ A c, ∃ l : List Nat, r = [.slice A l.length c] ∧ l.length ≤ c ∧ l.length ≤ B ∧ Old A ∧ Row M A (uL l) ∧ ∀ x ∈ l, x ≤ 65535 := by
  obtain ⟨A, n, c, l, rfl, h1, h2, h3, h4, h5, h6, h7⟩ := sees_slice (f := fun x : Nat => [Value.int .u16 (x : Int)]) (good := fun x => x ≤ 65535) (e := 47) (by kernel_rfl) h fun r hr => by
    obtain ⟨x, rfl, hw⟩ := sees_int (q := .u16) (by kernel_rfl) hr
    have := wf_u16 hw
    exact ⟨x.toNat, by congr 2; omega, by omega⟩
  rw [flatMap_one fun x : Nat => Value.int .u16 (x : Int)] at h6
  subst h1
  exact ⟨A, c, l, rfl, h2, h3, h5, h6, h7⟩
/-- An argument's table. -/
structure TG (M : Mem) (B : Nat) (t : Tv) : Prop where
  old : Old t.A
  row : Row M t.A (uL t.l)
  len : t.l.length ≤ B
  cap : t.l.length ≤ t.c
  small : ∀ x ∈ t.l, x ≤ 65535
  kb : -9223372036854775808 ≤ t.k ∧ t.k ≤ 9223372036854775807
theorem sees_tab {r : List Value} (h : Sees Try.prog M B (k + 3) 24 r) : ∃ t : Tv, r = tvC t ∧ TG M B t := by
  obtain ⟨h1, h2⟩ := sees_struct (l := [(0, 22), (1, 3)]) (n := 2) (by kernel_rfl) (by kernel_rfl) h
  match r, h1 with
  | [a, b], _ =>
    have c3 : Try.prog.cellsOf 3 = 1 := by kernel_rfl
    have c22 : Try.prog.cellsOf 22 = 1 := by kernel_rfl
    have s0 := h2 (0, 22) (by simp)
    have s1 := h2 (1, 3) (by simp)
    rw [c22] at s0
    rw [c3] at s1
    obtain ⟨A, c, l, e1, g2, g3, g4, g5, g6⟩ := sees_u16s s0
    obtain ⟨x, e0, w0⟩ := sees_int (q := .i64) (by kernel_rfl) s1
    simp at e0 e1
    subst e0 e1
    exact ⟨⟨A, c, l, x⟩, rfl, g4, g5, g3, g2, g6, wf_i64 w0⟩
theorem sees_tabs {r : List Value} (h : Sees Try.prog M B (k + 4) 34 r) : ∃ A c, ∃ T : List Tv, r = [.slice A T.length c] ∧ T.length ≤ c ∧ T.length ≤ B ∧ Old A ∧ Row M A (T.flatMap tvC) ∧ ∀ t ∈ T, TG M B t := by
  obtain ⟨A, n, c, l, rfl, h1, h2, h3, h4, h5, h6, h7⟩ := sees_slice (f := tvC) (good := TG M B) (e := 24) (by kernel_rfl) h fun r hr => sees_tab hr
  subst h1
  exact ⟨A, c, l, rfl, h2, h3, h5, h6, h7⟩
theorem sees_ints {r : List Value} (h : Sees Try.prog M B (k + 2) 25 r) : ∃ A c, ∃ l : List Int, r = [.slice A l.length c] ∧ l.length ≤ B ∧ Old A ∧ Row M A (l.map (.int .i64)) ∧ ∀ x ∈ l, -9223372036854775808 ≤ x ∧ x ≤ 9223372036854775807 := by
  obtain ⟨A, n, c, l, rfl, h1, h2, h3, h4, h5, h6, h7⟩ := sees_slice (f := fun x : Int => [Value.int .i64 x]) (good := fun x => -9223372036854775808 ≤ x ∧ x ≤ 9223372036854775807) (e := 3) (by kernel_rfl) h fun r hr => by
    obtain ⟨x, rfl, hw⟩ := sees_int (q := .i64) (by kernel_rfl) hr
    exact ⟨x, rfl, wf_i64 hw⟩
  rw [flatMap_one fun x : Int => Value.int .i64 x] at h6
  subst h1
  exact ⟨A, c, l, rfl, h3, h5, h6, h7⟩
end
/-! ### Parts lie one behind the other -/
section
variable {l : List Nat} {k : Int}
theorem Okt.next (h : Okt l k) {s : Int} (h0 : -1 ≤ s) (hs : s + 1 < l.length) : endS l s + 4 ≤ endS l (s + 1) := by
  unfold endS
  by_cases e : s < 0
  · rw [if_pos e, if_neg (by omega)]; omega
  · rw [if_neg e, if_neg (by omega), show (s + 1).toNat = s.toNat + 1 by omega]
    have h1 := h.srt s.toNat (Nat.zero_le _) (by omega)
    have h2 : gn l s.toNat * (32768 - 4 * l.length) / 32768 ≤ gn l (s.toNat + 1) * (32768 - 4 * l.length) / 32768 := Nat.div_le_div_right (Nat.mul_le_mul_right _ h1)
    omega
theorem Okt.end_mono (h : Okt l k) : ∀ (d : Nat) {s : Int}, -1 ≤ s → s + d < l.length → endS l s ≤ endS l (s + d)
  | 0, s, _, _ => by simp
  | d + 1, s, h0, hs => by
    have h1 := h.end_mono d (s := s) h0 (by omega)
    have h2 := h.next (s := s + d) (by omega) (by omega)
    rw [show s + ((d + 1 : Nat) : Int) = s + d + 1 by omega]; omega
theorem Okt.fnd (h : Okt l k) {s : Nat} (hs : s < l.length) {x : Nat} (h1 : endS l ((s : Int) - 1) ≤ x) (h2 : x < endS l s) : Fnd l x s := by
  refine ⟨hs, h2, fun j hj => Nat.le_trans ?_ h1⟩
  have := h.end_mono (s - 1 - j) (s := (j : Nat)) (by omega) (by omega)
  rw [show ((j : Int) + ((s - 1 - j : Nat) : Int)) = (s : Int) - 1 by omega] at this
  exact this
theorem Okt.bounds (h : Okt l k) {s : Int} (h0 : 0 ≤ s) (hs : s < l.length) : boundsS l k s = (endS l (s - 1), endS l s, 0) := by
  unfold boundsS; rw [if_pos ⟨check_0.2 h, h0, hs⟩]
end
theorem TbR.new {M N : Mem} {v : Value} {q : List Nat × Int × Nat} {D : Int → Mem → Prop} (h : TbR M q v N) (hf : M.floor ≤ M.nb.size)
    (k : ∀ A c M2, Keep M M2 → M.nb.size ≤ N.nb.size → M2.nb[N.nb.size]? = some (tcells A q.1.length c q.2.1) → Own (fun p => M.nb.size ≤ p ∧ p < N.nb.size) M2 47 A c (uL q.1) → q.1.length ≤ c → D (q.2.2 : Nat) M2) :
    ∃ cs, asU 2 v = some cs ∧ ∃ cs', asA 2 (cs.getD 0 undef) = some cs' ∧ ∃ s, asS (cs'.getD 0 undef) = some s ∧ ∃ x, asI .i64 (cs'.getD 1 undef) = some x ∧ ∃ e, asI .i64 (cs.getD 1 undef) = some e ∧
      ∃ M1, (N.new (tcells none 0 0 0)).put (2 * N.nb.size) 0 (.slice s.1 s.2.1 s.2.2) = some M1 ∧ ∃ M2, M1.put (2 * N.nb.size) 1 (.int .i64 x) = some M2 ∧ D e M2 := by
  obtain ⟨_, _, _, K, _, _⟩ := id h
  refine h.var (fb hf K) (newC N _) (newI none 0 0 0) (fun p hp _ => by omega) fun A c M2 K C hs hu hO hc => k A c M2 (Keep.step K C fun p hp => by rw [hp]; exact K.size) K.size hu (hO.mono fun p _ h => ⟨h.1, h.2.2⟩) hc
/-- An argument's table and its copy, each in a variable. -/
structure In (j3 jc : Nat) (A : Option Addr) (c : Nat) (B : Option Addr) (d : Nat) (l : List Nat) (k : Int) (M : Mem) : Prop where
  tv : M.nb[j3]? = some (tcells A l.length c k)
  cv : M.nb[jc]? = some (tcells B l.length d k)
  row : Row M A (uL l)
  own : Own (fun _ => True) M 47 B d (uL (l ++ room))
  cap : l.length + 3 ≤ d
theorem In.next {j3 jc : Nat} {A : Option Addr} {c : Nat} {B : Option Addr} {d : Nat} {l : List Nat} {k : Int} {M N : Mem} (h : In j3 jc A c B d l k M) (K : Keep M N) : In j3 jc A c B d l k N :=
  ⟨at_keep h.tv K, at_keep h.cv K, h.row.keep K, h.own.chg K fun _ _ _ h => h, h.cap⟩
/-- The copy is made. -/
theorem copyT {M N : Mem} {A : Option Addr} {c : Nat} {l : List Nat} {k : Int} {v : Value} {D : Mem → Prop} (hf : M.floor ≤ M.nb.size) (hR : Row M A (uL l)) (h : CpR (M.new (tcells A l.length c k)) l k v N)
    (hk : ∀ B d N', Keep M N' → In M.nb.size N.nb.size A c B d l k N' → M.nb.size < N.nb.size → D N') :
    ∃ cs4, asA 2 v = some cs4 ∧ ∃ s5, asS (cs4.getD 0 undef) = some s5 ∧ ∃ x6, asI .i64 (cs4.getD 1 undef) = some x6 ∧ ∃ M7, (N.new (tcells none 0 0 0)).put (2 * N.nb.size) 0 (.slice s5.1 s5.2.1 s5.2.2) = some M7 ∧ ∃ M8, M7.put (2 * N.nb.size) 1 (.int .i64 x6) = some M8 ∧ D M8 := by
  obtain ⟨B, d, rfl, K, hO, hc⟩ := h
  have K0 : Keep M (M.new (tcells A l.length c k)) := .new _ _
  have a0 := newI (M := M) A l.length c k
  have sz := Mem.new_size M (tcells A l.length c k)
  have hs := K.size
  obtain ⟨M1, p1, M2, p2, C, s2, u⟩ := put2 (A := B) (n := l.length) (c := d) (k := k) (Mem.new_at N (tcells none 0 0 0)) (by show N.floor ≤ _; rw [(K0.trans K).floor]; omega)
  have KN : Keep N M2 := Keep.step (.new _ _) C fun p hp => by rw [hp]; exact Nat.le_refl _
  exact ⟨_, rfl, _, rfl, _, rfl, M1, p1, M2, p2, hk B d M2 ((K0.trans K).trans KN) ⟨at_keep a0 (K.trans KN), u, hR.keep ((K0.trans K).trans KN), (hO.mono fun _ _ _ => trivial).chg KN fun _ _ _ h => h, hc⟩ (by omega)⟩
theorem el34 : ElemS Try.prog 34 24 2 32 (.agg #[.slice none 0 0, .int .i64 0]) := ⟨by kernel_rfl, by kernel_rfl, rfl, by decide, by decide⟩
theorem appS {P : Program} {t e : TypeId} {s b : Nat} {z : Value} (hE : ElemS P t e s b z) {S : Nat → Prop} {M : Mem} {A : Option Addr} {n c : Nat} {L : List Value} {vs : List Value}
    (hO : Own S M e A (c * s) L) (hn : L.length = n * s) (hv : vs.length = s) (h1 : vs.all oneCell = true) (hS : ∀ j, S j → M.floor ≤ j) (hS1 : ∀ p, M.nb.size ≤ p → S p) (hb : (n + 1) * b ≤ 140737488355328) :
    ∃ A' c' M', appendP P #[t, t] (.slice A n c) (.slice (some ⟨2 * M.nb.size, 0, none⟩) 1 1) (M.new (.cells vs.toArray e)) = some (.slice A' (n + 1) c', M') ∧ Chg S M M' ∧ Own S M' e A' (c' * s) (L ++ vs) ∧ n + 1 ≤ c' := by
  have hO' : Own S (M.new (.cells vs.toArray e)) e A (c * s) L := hO.chg (T := fun _ => False) (.new _ _) fun _ _ _ h => h
  obtain ⟨A', c', M', g1, g2, g3, g4⟩ := append_own hE hO' (n := n) hn (Row.new M e vs) (k := 1) (cx := 1) (by rw [hv, Nat.one_mul]) h1 hS (hS1 _ (by rw [Mem.new_size]; omega)) (by simpa using hb)
  exact ⟨A', c', M', g1, (Chg.new M _).trans g2, g3, g4⟩
theorem avg_len (X : List (List Nat × Int)) : (avgS X).1.length ≤ 1048576 := by
  unfold avgS; split
  · rename_i h
    obtain ⟨h1, h2⟩ := avgOk_iff.1 h
    show (avgL X).length ≤ _
    unfold avgL
    rw [List.length_map, List.length_range]
    cases X with
    | nil => simp
    | cons x X =>
      have := (h2 x (List.mem_cons_self ..)).1.hi
      simp; omega
  · simp
theorem flat2 (T : List Tv) : (T.flatMap tvC).length = T.length * 2 := by
  induction T with
  | nil => rfl
  | cons t T ih => rw [List.flatMap_cons, List.length_append, ih, tvC_len, List.length_cons]; omega
theorem tvC_one (T : List Tv) : (T.flatMap tvC).all oneCell = true := by
  rw [List.all_eq_true]
  intro v hv
  obtain ⟨t, _, hv⟩ := List.mem_flatMap.1 hv
  simp [tvC] at hv
  rcases hv with rfl | rfl <;> rfl
/-- A list of tables, in new memory. -/
structure Lst (M0 : Mem) (Sl : Nat → Prop) (M : Mem) (A : Option Addr) (c : Nat) (U : List Tv) : Prop where
  own : Own Sl M 24 A (c * 2) (U.flatMap tvC)
  in_ : ∀ p, Sl p → M0.nb.size ≤ p ∧ p < M.nb.size
theorem Lst.next {M0 : Mem} {Sl : Nat → Prop} {M N : Mem} {A : Option Addr} {c : Nat} {U : List Tv} (h : Lst M0 Sl M A c U) (K : Keep M N) : Lst M0 Sl N A c U :=
  ⟨h.own.chg K fun _ _ _ h => h, fun p hp => ⟨(h.in_ p hp).1, Nat.lt_of_lt_of_le (h.in_ p hp).2 K.size⟩⟩
theorem Lst.app {M0 : Mem} (hf : M0.floor ≤ M0.nb.size) {Sl : Nat → Prop} {M : Mem} (K : Keep M0 M) {A : Option Addr} {c : Nat} {U : List Tv} (h : Lst M0 Sl M A c U) (t : Tv) (hb : U.length ≤ 1048576) :
    ∃ A' c' M', appendP Try.prog #[34, 34] (.slice A U.length c) (.slice (some ⟨2 * M.nb.size, 0, none⟩) 1 1) (M.new (.cells #[.slice t.A t.l.length t.c, .int .i64 t.k] 24)) = some (.slice A' (U.length + 1) c', M') ∧ Chg (fun p => Sl p ∨ M.nb.size ≤ p) M M' ∧ Lst M0 (fun p => (Sl p ∨ M.nb.size ≤ p) ∧ p < M'.nb.size) M' A' c' (U ++ [t]) ∧ Keep M0 M' := by
  have hs := K.size
  obtain ⟨A', c', M', g1, g2, g3, g4⟩ := appS el34 (S := fun p => Sl p ∨ M.nb.size ≤ p) (n := U.length) (vs := tvC t) (h.own.mono fun p _ h => .inl h) (flat2 U) rfl rfl (fun p hp => by
    rw [K.floor]
    rcases hp with hp | hp
    · have := (h.in_ p hp).1; omega
    · omega) (fun p hp => .inr hp) (by omega)
  refine ⟨A', c', M', g1, g2, ⟨?_, fun p hp => ⟨?_, hp.2⟩⟩, Keep.step K g2 fun p hp => ?_⟩
  · rw [List.flatMap_append]
    exact (by simpa using g3 : Own _ M' 24 A' (c' * 2) (U.flatMap tvC ++ [t].flatMap tvC)).mono fun p hp h => ⟨h, hp⟩
  · rcases hp.1 with h1 | h1
    · exact (h.in_ p h1).1
    · omega
  · rcases hp with h1 | h1
    · exact (h.in_ p h1).1
    · omega
end Go.Zt
