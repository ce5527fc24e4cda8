/- Layer 3: CdfTells. -/
import Derived.Test.YtbnhbmkoghnjhaaZhK
import Derived.Test.YtbnhbmkoghnjhaaZhDf
set_option linter.unusedSimpArgs false
set_option linter.unusedVariables false
set_option maxRecDepth 100000
namespace Go.Zt
open Go Go.Sim Go.Proofs Go.RowKit

theorem u32_nat (z : Int) : ∃ y : Nat, IntKind.u32.wrap z = (y : Nat) ∧ y ≤ 4294967295 := by
  have : 0 ≤ IntKind.u32.wrap z ∧ IntKind.u32.wrap z ≤ 4294967295 := by
    unfold IntKind.wrap
    simp [IntKind.signed, IntKind.bits]
    omega
  exact ⟨(IntKind.u32.wrap z).toNat, by omega, by omega⟩
theorem TbR.new {M N : Mem} {v : Value} {q : List Nat × Int × Nat} {D : Int → Mem → Prop} (h : TbR M q v N) (hf : M.floor ≤ M.nb.size)
    (k : ∀ A c M2, Keep M M2 → M.nb.size ≤ N.nb.size → M2.nb[N.nb.size]? = some (tcells A q.1.length c q.2.1) → Own (fun p => M.nb.size ≤ p ∧ p < N.nb.size) M2 47 A c (uL q.1) → q.1.length ≤ c → D (q.2.2 : Nat) M2) :
    ∃ cs, asU 2 v = some cs ∧ ∃ cs', asA 2 (cs.getD 0 undef) = some cs' ∧ ∃ s, asS (cs'.getD 0 undef) = some s ∧ ∃ x, asI .i64 (cs'.getD 1 undef) = some x ∧ ∃ e, asI .i64 (cs.getD 1 undef) = some e ∧
      ∃ M1, (N.new (tcells none 0 0 0)).put (2 * N.nb.size) 0 (.slice s.1 s.2.1 s.2.2) = some M1 ∧ ∃ M2, M1.put (2 * N.nb.size) 1 (.int .i64 x) = some M2 ∧ D e M2 := by
  obtain ⟨_, _, _, K, _, _⟩ := id h
  refine h.var (fb hf K) (newC N _) (newI none 0 0 0) (fun p hp _ => by omega) fun A c M2 K C hs hu hO hc => k A c M2 (Keep.step K C fun p hp => by rw [hp]; exact K.size) K.size hu (hO.mono fun p _ h => ⟨h.1, h.2.2⟩) hc
/-- An argument's table and its copy, each in a variable. -/
structure In (j3 jc : Nat) (A : Option Addr) (c : Nat) (B : Option Addr) (d : Nat) (l : List Nat) (k : Int) (M : Mem) : Prop where
  tv : M.nb[j3]? = some (tcells A l.length c k)
  cv : M.nb[jc]? = some (tcells B l.length d k)
  row : Row M A (uL l)
  own : Own (fun _ => True) M 47 B d (uL (l ++ room))
  cap : l.length + 3 ≤ d
theorem In.next {j3 jc : Nat} {A : Option Addr} {c : Nat} {B : Option Addr} {d : Nat} {l : List Nat} {k : Int} {M N : Mem} (h : In j3 jc A c B d l k M) (K : Keep M N) : In j3 jc A c B d l k N :=
  ⟨at_keep h.tv K, at_keep h.cv K, h.row.keep K, h.own.chg K fun _ _ _ h => h, h.cap⟩
/-- The copy is made. -/
theorem copyT {M N : Mem} {A : Option Addr} {c : Nat} {l : List Nat} {k : Int} {v : Value} {D : Mem → Prop} (hf : M.floor ≤ M.nb.size) (hR : Row M A (uL l)) (h : CpR (M.new (tcells A l.length c k)) l k v N)
    (hk : ∀ B d N', Keep M N' → In M.nb.size N.nb.size A c B d l k N' → M.nb.size < N.nb.size → D N') :
    ∃ cs4, asA 2 v = some cs4 ∧ ∃ s5, asS (cs4.getD 0 undef) = some s5 ∧ ∃ x6, asI .i64 (cs4.getD 1 undef) = some x6 ∧ ∃ M7, (N.new (tcells none 0 0 0)).put (2 * N.nb.size) 0 (.slice s5.1 s5.2.1 s5.2.2) = some M7 ∧ ∃ M8, M7.put (2 * N.nb.size) 1 (.int .i64 x6) = some M8 ∧ D M8 := by
  obtain ⟨B, d, rfl, K, hO, hc⟩ := h
  have K0 : Keep M (M.new (tcells A l.length c k)) := .new _ _
  have a0 := newI (M := M) A l.length c k
  have sz := Mem.new_size M (tcells A l.length c k)
  have hs := K.size
  obtain ⟨M1, p1, M2, p2, C, s2, u⟩ := put2 (A := B) (n := l.length) (c := d) (k := k) (Mem.new_at N (tcells none 0 0 0)) (by show N.floor ≤ _; rw [(K0.trans K).floor]; omega)
  have KN : Keep N M2 := Keep.step (.new _ _) C fun p hp => by rw [hp]; exact Nat.le_refl _
  exact ⟨_, rfl, _, rfl, _, rfl, M1, p1, M2, p2, hk B d M2 ((K0.trans K).trans KN) ⟨at_keep a0 (K.trans KN), u, hR.keep ((K0.trans K).trans KN), (hO.mono fun _ _ _ => trivial).chg KN fun _ _ _ h => h, hc⟩ (by omega)⟩
section
variable {M0 : Mem} {A B : Option Addr} {c d j3 jc : Nat} {l : List Nat} {k : Int} {x2 : Nat}
theorem fnd_same {M N : Mem} {x : Nat} {v u : Value} {N2 M2 : Mem} (h : FndR M l k x v N) (h2 : FndR M2 l k x u N2) : u = v := by
  obtain ⟨_, h⟩ := h
  obtain ⟨_, h2⟩ := h2
  rcases h with ⟨a1, a2, i, a3, rfl⟩ | ⟨a1, rfl⟩
  · rcases h2 with ⟨b1, b2, j, b3, rfl⟩ | ⟨b1, rfl⟩
    · rw [a3.uniq b3]
    · exact absurd ⟨a1, a2⟩ b1
  · rcases h2 with ⟨b1, b2, j, b3, rfl⟩ | ⟨b1, rfl⟩
    · exact absurd ⟨b1, b2⟩ a1
    · rfl
theorem c8_finds (hf : M0.floor ≤ M0.nb.size) (hb : l.length ≤ 1099511627776) : ∀ (m i : Nat) {M : Mem}, i + m = 40 → Keep M0 M → In j3 jc A c B d l k M → A8_4 (x2 : Nat) (some ⟨2 * j3, 0, none⟩) (some ⟨2 * jc, 0, none⟩) (i : Nat) M fun v _ => v = .bool true := by
  intro m
  induction m with
  | zero =>
    intro i M hi K h
    refine w8_4 ⟨fun h => by omega, fun _ => ⟨_, rfl, _, sl_of h.cv rfl, _, int_of h.cv rfl, _, rfl, _, sl_of h.tv rfl, _, int_of h.tv rfl, Cn.mono (c14 h.own rfl hb h.cap h.row rfl) ?_⟩⟩
    rintro _ N ⟨rfl, KN⟩
    exact ⟨_, rfl, fun _ => Cn.eq c16 ⟨_, rfl, rfl⟩, fun h => (by cases h)⟩
  | succ m ih =>
    intro i M hi K h
    obtain ⟨y, hy, hy2⟩ := u32_nat (((x2 : Nat) : Int) + IntKind.u32.wrap (IntKind.u32.wrap ((i : Nat) : Int) * 999))
    refine w8_4 ⟨fun _ => ⟨_, rfl, _, sl_of h.cv rfl, _, int_of h.cv rfl, ?_⟩, fun h => by omega⟩
    rw [hy]
    refine Cn.mono (c21 (fb hf K) (row_pre h.own.row) rfl hb) ?_
    intro v N hv
    have hv0 := hv
    obtain ⟨KN, _⟩ := hv
    have h2 := h.next KN
    have shape : ∃ p q : Int, v = .tuple #[.int .i64 p, .int .i64 q] := by
      obtain ⟨_, ⟨_, _, i, _, rfl⟩ | ⟨_, rfl⟩⟩ := hv0
      · exact ⟨_, _, rfl⟩
      · exact ⟨_, _, rfl⟩
    obtain ⟨p, q, rfl⟩ := shape
    refine ⟨_, rfl, _, rfl, _, rfl, _, rfl, _, sl_of h2.tv rfl, _, int_of h2.tv rfl, Cn.mono (c31 (fb hf (K.trans KN)) h2.row rfl hb hy2) ?_⟩
    intro u N2 hu
    obtain rfl := fnd_same hv0 hu
    have KN2 := hu.1
    refine ⟨_, rfl, _, rfl, _, rfl, fun hne => absurd rfl hne, fun _ => ?_⟩
    rw [show (q != q) = false by simp]
    refine w8_5 ⟨fun h => (by cases h), fun _ => ?_⟩
    rw [i64w (by omega), show ((i : Int) + 1) = ((i + 1 : Nat) : Int) by omega]
    exact ih (i + 1) (by omega) ((K.trans KN).trans KN2) (h2.next KN2)
theorem c8_bounds (hf : M0.floor ≤ M0.nb.size) (hb : l.length ≤ 1099511627776) {x1 : Int} : ∀ (m i : Nat) {M : Mem}, i + m = 19 → Keep M0 M → In j3 jc A c B d l k M → A8_2 x1 (x2 : Nat) (some ⟨2 * j3, 0, none⟩) (some ⟨2 * jc, 0, none⟩) ((i : Int) - 1) M fun v _ => v = .bool true := by
  intro m
  induction m with
  | zero =>
    intro i M hi K h
    exact w8_2 ⟨fun h => by omega, fun _ => c8_finds hf hb 40 0 (Nat.zero_add _) K h⟩
  | succ m ih =>
    intro i M hi K h
    have next : ∀ {N : Mem}, Keep M N → A8_3 x1 (x2 : Nat) (some ⟨2 * j3, 0, none⟩) (some ⟨2 * jc, 0, none⟩) ((i : Int) - 1) false N fun v _ => v = .bool true := by
      intro N KN
      refine w8_3 ⟨fun h => (by cases h), fun _ => ?_⟩
      rw [i64w (by omega)]
      have := ih (i + 1) (by omega) (K.trans KN) (h.next KN)
      rw [show ((i + 1 : Nat) : Int) - 1 = (i : Int) - 1 + 1 by omega] at this
      exact this
    refine w8_2 ⟨fun _ => ⟨fun _ => ⟨_, rfl, _, sl_of h.cv rfl, _, int_of h.cv rfl, Cn.mono (c20 (fb hf K) (row_pre h.own.row) rfl hb) ?_⟩, fun _ => ⟨_, rfl, _, sl_of h.cv rfl, _, int_of h.cv rfl, Cn.mono (c20 (fb hf K) (row_pre h.own.row) rfl hb) ?_⟩⟩, fun h => by omega⟩
    · rintro _ N ⟨rfl, KN⟩
      have h2 := h.next KN
      refine ⟨_, rfl, _, rfl, _, rfl, _, rfl, _, rfl, _, sl_of h2.tv rfl, _, int_of h2.tv rfl, Cn.mono (c30 (fb hf (K.trans KN)) h2.row rfl hb) ?_⟩
      rintro _ N2 ⟨rfl, KN2⟩
      refine ⟨_, rfl, _, rfl, _, rfl, _, rfl, fun hh => absurd rfl hh, fun _ => ⟨fun hh => absurd rfl hh, fun _ => ?_⟩⟩
      rw [show ∀ z : Int, (z != z) = false from fun z => by simp]
      exact next (KN.trans KN2)
    · rintro _ N ⟨rfl, KN⟩
      have h2 := h.next KN
      refine ⟨_, rfl, _, rfl, _, rfl, _, rfl, _, rfl, _, sl_of h2.tv rfl, _, int_of h2.tv rfl, Cn.mono (c30 (fb hf (K.trans KN)) h2.row rfl hb) ?_⟩
      rintro _ N2 ⟨rfl, KN2⟩
      refine ⟨_, rfl, _, rfl, _, rfl, _, rfl, fun hh => absurd rfl hh, fun _ => ⟨fun hh => absurd rfl hh, fun _ => ?_⟩⟩
      rw [show ∀ z : Int, (z != z) = false from fun z => by simp]
      exact next (KN.trans KN2)
end
theorem flat_len (x : Int) : (flatS x).1.length ≤ 1048576 := by
  unfold flatS; split
  · simp; omega
  · simp
theorem steep_len (x : Int) : (steepS x).1.length ≤ 1048576 := by
  unfold steepS; split
  · simp; omega
  · simp
theorem law8 {W : World} {cs : List Value} {u1 u2 : Value} (s0 : Sees Try.prog (mem0 W) 1048576 8 24 cs) (s1 : Sees Try.prog (mem0 W) 1048576 8 3 [u1]) (s2 : Sees Try.prog (mem0 W) 1048576 8 37 [u2]) : Cn Try.prog 8 #[.agg cs.toArray, u1, u2] (mem0 W) fun v _ => v = .bool true := by
  obtain ⟨t, rfl, g⟩ := sees_tab s0
  obtain ⟨x1, e, _⟩ := sees_int (q := .i64) (by kernel_rfl) s1
  simp at e
  subst e
  obtain ⟨x2, e, hw⟩ := sees_int (q := .u32) (by kernel_rfl) s2
  simp at e
  subst e
  have hx := wf_u32 hw
  obtain ⟨x2, rfl⟩ : ∃ y : Nat, x2 = (y : Nat) := ⟨x2.toNat, by omega⟩
  have hf : (mem0 W).floor ≤ (mem0 W).nb.size := Nat.le_refl _
  generalize mem0 W = M at g hf ⊢
  obtain ⟨A, c, l, k⟩ := t
  have hlen := g.len
  dsimp only at hlen
  have hb40 : l.length ≤ 1099511627776 := by omega
  have a0 := newI (M := M) A l.length c k
  have K0 : Keep M (M.new (tcells A l.length c k)) := .new _ _
  have hR := g.row
  dsimp only at hR
  show Cn Try.prog 8 #[.agg #[.slice A l.length c, .int .i64 k], .int .i64 x1, .int .u32 (x2 : Nat)] M _
  refine w8_0 ⟨_, sl_of a0 rfl, _, int_of a0 rfl, Cn.mono (c10 (fb hf K0) (hR.keep K0) rfl hb40) ?_⟩
  intro v N3 hv
  refine copyT hf hR hv ?_
  intro B d B0 KB hin hjc
  have hfB := fb hf KB
  -- the four answers
  refine Cn.mono (c25 hfB) fun v N9 h9 => h9.new hfB ?_
  intro Aa ca M16 K16 z16 ua Oa hca
  have hf16 := fb hfB K16
  refine Cn.mono (c26 hf16) fun v N17 h17 => h17.new hf16 ?_
  intro Ab cb M24 K24 z24 ub Ob hcb
  have hf24 := fb hf16 K24
  refine Cn.mono (c27 hf24) fun v N25 h25 => h25.new hf24 ?_
  intro Ac cc M32 K32 z32 uc Oc hcc
  have hf32 := fb hf24 K32
  refine Cn.mono (c28 hf32) fun v N33 h33 => h33.new hf32 ?_
  intro Ad cd M40 K40 z40 ud Od hcd
  have y16 := lt_of_at ua
  have y24 := lt_of_at ub
  have y32 := lt_of_at uc
  have y40 := lt_of_at ud
  have q24 := K24.size
  have q32 := K32.size
  have q40 := K40.size
  have K2440 := K32.trans K40
  have K1640 := K24.trans K2440
  have ua := at_keep ua K1640
  have ub := at_keep ub K2440
  have uc := at_keep uc K40
  have Oa := Oa.chg K1640 fun _ _ _ h => h
  have Ob := Ob.chg K2440 fun _ _ _ h => h
  have Oc := Oc.chg K40 fun _ _ _ h => h
  have KB40 := K16.trans K1640
  have hflB : B0.floor ≤ B0.nb.size := hfB
  refine ⟨_, sl_of ua rfl, _, int_of ua rfl, _, sl_of ub rfl, _, int_of ub rfl, Cn.mono (c15 Oa (fun p hp => by rw [KB40.floor]; omega) (fb hfB KB40) rfl (flat_len x1) Ob.row rfl) ?_⟩
  rintro _ N45 ⟨rfl, C45⟩
  have KB45 : Keep B0 N45 := Keep.step KB40 C45 fun p hp => hp.1
  have uc := at_chg uc C45 (by omega)
  have ud := at_chg ud C45 (by omega)
  have Oc := Oc.chg C45 fun p _ h1 h2 => by omega
  have Od := Od.chg C45 fun p _ h1 h2 => by omega
  rw [decide_eq_true ⟨rfl, rfl, rfl⟩]
  refine ⟨_, rfl, fun h => (by cases h), fun _ => ⟨_, sl_of uc rfl, _, int_of uc rfl, _, sl_of ud rfl, _, int_of ud rfl, Cn.mono (c15 Oc (fun p hp => by rw [KB45.floor]; omega) (fb hfB KB45) rfl (steep_len x1) Od.row rfl) ?_⟩⟩
  rintro _ N51 ⟨rfl, C51⟩
  have KB51 : Keep B0 N51 := Keep.step KB45 C51 fun p hp => by omega
  rw [decide_eq_true ⟨rfl, rfl, rfl⟩]
  have h51 := hin.next KB51
  refine ⟨_, rfl, fun h => (by cases h), fun _ => ⟨_, sl_of h51.cv rfl, _, int_of h51.cv rfl, _, sl_of h51.tv rfl, _, int_of h51.tv rfl, Cn.mono (c19 (M := { N51 with floor := N51.nb.size }) (show Row { N51 with floor := N51.nb.size } B (uL l) from fun i hi => row_pre h51.own.row i hi) rfl hb40) ?_⟩⟩
  rintro _ N57 ⟨rfl, K57⟩
  have K57' : Keep N51 { N57 with floor := N51.floor } := K57.unfl
  have h57 := h51.next K57'
  refine ⟨_, rfl, Cn.mono (c29 h57.row rfl hb40) ?_⟩
  rintro _ N59 ⟨rfl, K59⟩
  refine ⟨_, rfl, ?_⟩
  rw [show ∀ z : Int, (z != z) = false from fun z => by simp]
  refine w8_1 ⟨fun h => (by cases h), fun _ => ?_⟩
  have K59' := (KB51.trans K57').trans K59
  exact c8_bounds (M0 := B0) hfB hb40 19 0 (Nat.zero_add _) K59' (h57.next K59)
end Go.Zt
