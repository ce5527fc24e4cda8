/- Layer 3: CdfLearns. -/
import Derived.Test.YtbnhbmkoghnjhaaZhJa
import Derived.Test.YtbnhbmkoghnjhaaZhDb
set_option linter.unusedSimpArgs false
set_option linter.unusedVariables false
set_option maxRecDepth 100000
namespace Go.Zt
open Go Go.Sim Go.Proofs Go.RowKit

theorem adapt_len (l : List Nat) (k s : Int) : (adaptS l k s).1.length ≤ 1048576 := by
  unfold adaptS; split
  · rename_i h
    have := (check_0.1 h.1).hi
    show (adL _ _ _).length ≤ _
    simp [adL]; omega
  · simp
/-- A table in a variable that may be written over; its cells lie elsewhere. -/
structure TVar (s0 s1 j : Nat) (M : Mem) (A : Option Addr) (c : Nat) (l : List Nat) (k : Int) : Prop where
  var : M.nb[j]? = some (tcells A l.length c k)
  row : Row M A (uL l)
  off : ∀ a, A = some a → a.block % 2 = 1 ∨ (a.block / 2 ≠ s0 ∧ a.block / 2 ≠ s1)
theorem TVar.next {s0 s1 j : Nat} {M N : Mem} {A : Option Addr} {c : Nat} {l : List Nat} {k : Int} (h : TVar s0 s1 j M A c l k) (K : Keep M N) : TVar s0 s1 j N A c l k := ⟨at_keep h.var K, h.row.keep K, h.off⟩
section
variable {M0 : Mem} {A B X : Option Addr} {c d j3 jc m xc : Nat} {l : List Nat} {k : Int} {x : List Int}
theorem c3_end (hf : M0.floor ≤ M0.nb.size) (hb : l.length ≤ 1099511627776) {x6 x7 : Option Addr} {z : Int} {M : Mem} (K : Keep M0 M) (h : In j3 jc A c B d l k M) : A3_2 X m xc (some ⟨2 * j3, 0, none⟩) (some ⟨2 * jc, 0, none⟩) x6 x7 z false M fun v _ => v = .bool true := by
  have hfM := fb hf K
  refine w3_2 ⟨fun h => (by cases h), fun _ => ⟨_, rfl, _, sl_of h.cv rfl, _, int_of h.cv rfl, Cn.mono (c11 hfM (row_pre h.own.row) rfl hb) fun v N h9 => h9.new hfM ?_⟩⟩
  intro Aa ca M16 K16 z16 ua Oa hca
  have hf16 := fb hfM K16
  have h16 := h.next K16
  refine ⟨_, rfl, _, sl_of h16.tv rfl, _, int_of h16.tv rfl, Cn.mono (c12 hf16 h16.row rfl hb) fun v N h17 => h17.new hf16 ?_⟩
  intro Ab cb M24 K24 z24 ub Ob hcb
  have y16 := lt_of_at ua
  have y24 := lt_of_at ub
  have ua := at_keep ua K24
  have Oa := Oa.chg K24 fun _ _ _ h => h
  have KM := K16.trans K24
  refine ⟨_, sl_of ua rfl, _, int_of ua rfl, _, sl_of ub rfl, _, int_of ub rfl, Cn.mono (c15 Oa (fun p hp => by rw [KM.floor]; omega) (fb hfM KM) rfl (adapt_len ..) Ob.row rfl) ?_⟩
  rintro _ N83 ⟨rfl, C83⟩
  have K83 : Keep M N83 := Keep.step KM C83 fun p hp => hp.1
  have h83 := h.next K83
  rw [decide_eq_true ⟨rfl, rfl, rfl⟩]
  refine ⟨_, rfl, fun _ => ⟨_, rfl, _, sl_of h83.cv rfl, _, int_of h83.cv rfl, _, rfl, _, sl_of h83.tv rfl, _, int_of h83.tv rfl, Cn.mono (c14 h83.own rfl hb h83.cap h83.row rfl) ?_⟩, fun h => (by cases h)⟩
  rintro _ N91 ⟨rfl, K91⟩
  exact ⟨_, rfl, fun _ => Cn.eq c16 ⟨_, rfl, rfl⟩, fun h => (by cases h)⟩
theorem c3_loop (hf : M0.floor ≤ M0.nb.size) (hX : Row M0 X (x.map (.int .i64))) (hm : m = x.length) (hm2 : m ≤ 1048576) (hb : l.length ≤ 1099511627776) (hin : In j3 jc A c B d l k M0) {s0 s1 : Nat} (h0 : M0.nb.size ≤ s0) (h1 : M0.nb.size ≤ s1) (h01 : s0 ≠ s1) :
    ∀ (t i : Nat) {M : Mem} {Ax Ay : Option Addr} {cx cy : Nat} {l' : List Nat} {k' : Int}, i + t = m → l'.length ≤ 1099511627776 → Keep M0 M → TVar s0 s1 s0 M Ax cx l' k' → TVar s0 s1 s1 M Ay cy l' k' →
      A3_1 X m xc (some ⟨2 * j3, 0, none⟩) (some ⟨2 * jc, 0, none⟩) (some ⟨2 * s0, 0, none⟩) (some ⟨2 * s1, 0, none⟩) (i : Nat) M fun v _ => v = .bool true := by
  intro t
  induction t with
  | zero =>
    intro i M Ax Ay cx cy l' k' hi hl' K hx hy
    have h := hin.next K
    exact w3_1 ⟨fun h => by omega, fun _ => c3_end hf hb K h⟩
  | succ t ih =>
    intro i M Ax Ay cx cy l' k' hi hl' K hx hy
    have h := hin.next K
    by_cases h60 : (i : Int) < 60
    case neg => exact w3_1 ⟨fun _ => by rw [decide_eq_false h60]; exact c3_end hf hb K h, fun h => by omega⟩
    refine w3_1 ⟨fun _ => ?_, fun h => by omega⟩
    rw [decide_eq_true h60]
    have hfM := fb hf K
    have KS := keep_res M 1
    have sS := res_size M 1
    have hiS : i < x.length := by omega
    obtain ⟨a, b1, b2⟩ := (hX.keep (K.trans KS)).int1 (n := m) (i := i) (z := ((i : Nat) : Int)) (k := .i64) (x := x[i]) rfl (by omega) (by simp [List.getElem?_eq_getElem hiS])
    have hx1 := hx.next KS
    refine w3_2 ⟨fun _ => ⟨_, rfl, _, sl_of hx1.var rfl, _, int_of hx1.var rfl, _, b1, _, b2, Cn.mono (c11 (fb hfM KS) hx1.row rfl hl') ?_⟩, fun h => (by cases h)⟩
    intro v N22 hv
    obtain ⟨_, _, _, K22, _, _⟩ := id hv
    have q22 := K22.size
    have hM0 := K.size
    have ls0 := lt_of_at hx.var
    have ls1 := lt_of_at hy.var
    have KM22 := KS.trans K22
    refine hv.var (j := M.nb.size + 0) (by rw [KM22.floor]; omega) (upd_chg rfl) (upd_at (by omega)) (fun p hp hp2 => by omega) ?_
    intro Aa ca M29 _ C29 z29 ua Oa hca
    have K29 : Keep M M29 := Keep.step KM22 C29 fun p hp => by omega
    have hf29 := fb hfM K29
    have KT := keep_res M29 1
    have sT := res_size M29 1
    obtain ⟨a2, b1', b2'⟩ := (hX.keep ((K.trans K29).trans KT)).int1 (n := m) (i := i) (z := ((i : Nat) : Int)) (k := .i64) (x := x[i]) rfl (by omega) (by simp [List.getElem?_eq_getElem hiS])
    have hy1 := (hy.next K29).next KT
    refine ⟨_, rfl, _, sl_of hy1.var rfl, _, int_of hy1.var rfl, _, b1', _, b2', Cn.mono (c12 (fb hf29 KT) hy1.row rfl hl') ?_⟩
    generalize x[i] = xi at b2 b2' hv Oa ua hca ⊢
    intro v2 N35 hv2
    obtain ⟨_, _, _, K35, _, _⟩ := id hv2
    have q35 := K35.size
    have q29 := K29.size
    have la := lt_of_at ua
    have KM35 := KT.trans K35
    refine hv2.var (j := M29.nb.size + 0) (by rw [KM35.floor, K29.floor]; omega) (upd_chg rfl) (upd_at (by omega)) (fun p hp hp2 => by omega) ?_
    intro Ab cb M42 _ C42 z42 ub Ob hcb
    have K42 : Keep M29 M42 := Keep.step KM35 C42 fun p hp => by omega
    have ua := at_keep ua K42
    have Oa := Oa.chg K42 fun _ _ _ h => h
    have KK := K29.trans K42
    have Kall := K.trans KK
    have hlq := adapt_len l' k' xi
    have hlq2 : (adaptS l' k' xi).1.length ≤ 1099511627776 := by omega
    generalize adaptS l' k' xi = q at *
    have h42 := h.next KK
    have hx42 := hx.next KK
    have hy42 := hy.next KK
    refine ⟨fun hh => absurd rfl hh, fun _ => ⟨_, sl_of ua rfl, _, int_of ua rfl, _, sl_of ub rfl, _, int_of ub rfl, Cn.mono (c13 Oa.row rfl hlq2 Ob.row rfl) ?_⟩⟩
    rintro _ N47 ⟨rfl, K47⟩
    rw [decide_eq_true ⟨rfl, rfl⟩]
    have h47 := h42.next K47
    refine ⟨_, rfl, fun hh => (by cases hh), fun _ => ⟨_, rfl, _, sl_of h47.cv rfl, _, int_of h47.cv rfl, _, rfl, _, sl_of h47.tv rfl, _, int_of h47.tv rfl, Cn.mono (c14 h47.own rfl hb h47.cap h47.row rfl) ?_⟩⟩
    rintro _ N55 ⟨rfl, K55⟩
    have K5 := K47.trans K55
    have h55 := h47.next K55
    have ua := at_keep ua K5
    have ub := at_keep ub K5
    have hx55 := hx42.next K5
    have hy55 := hy42.next K5
    have Ra := Oa.row.keep K5
    have Rb := Ob.row.keep K5
    have K6 := Kall.trans K5
    refine ⟨_, rfl, w3_3 ⟨fun hh => (by cases hh), fun _ => ⟨fun _ => ⟨_, rfl, _, sl_of ua rfl, _, int_of ua rfl, _, rfl, _, sl_of ub rfl, _, int_of ub rfl, fun hh => ?_, fun _ => ?_⟩, fun _ => w3_4 ?_⟩⟩⟩
    · have : 2 * s0 = 2 * (M29.nb.size + 0) := Option.some.inj hh
      omega
    · have hfl : N55.floor ≤ s0 ∧ N55.floor ≤ s1 := by rw [K6.floor]; omega
      obtain ⟨My, y1, Mz, y2, C7, s7, u7⟩ := put2 (A := Aa) (n := q.1.length) (c := ca) (k := q.2.1) hx55.var hfl.1
      have vy := at_chg hy55.var C7 (Ne.symm h01)
      obtain ⟨My2, y3, Mz2, y4, C8, s8, u8⟩ := put2 (A := Ab) (n := q.1.length) (c := cb) (k := q.2.1) vy (by rw [C7.floor]; exact hfl.2)
      refine ⟨_, rfl, _, y1, _, y2, _, rfl, _, y3, _, y4, w3_4 ?_⟩
      rw [i64w (by omega), show ((i : Int) + 1) = ((i + 1 : Nat) : Int) by omega]
      have K7 : Keep M0 Mz2 := Keep.step (Keep.step K6 C7 fun p hp => by rw [hp]; exact h0) C8 fun p hp => by rw [hp]; exact h1
      have C78 : Chg (fun p => p = s0 ∨ p = s1) N55 Mz2 := (C7.mono fun p _ h => .inl h).trans (C8.mono fun p _ h => .inr h)
      have offa : ∀ a, Aa = some a → a.block % 2 = 1 ∨ (a.block / 2 ≠ s0 ∧ a.block / 2 ≠ s1) := fun a ha => by
        obtain ⟨_, q2⟩ := Oa.in_ a ha
        right; omega
      have offb : ∀ a, Ab = some a → a.block % 2 = 1 ∨ (a.block / 2 ≠ s0 ∧ a.block / 2 ≠ s1) := fun a ha => by
        obtain ⟨_, q2⟩ := Ob.in_ a ha
        right; omega
      refine ih (i + 1) (by omega) hlq2 K7 ⟨at_chg u7 C8 h01, Ra.chg C78 fun a ha => (offa a ha).imp id fun h => by omega, offa⟩ ⟨u8, Rb.chg C78 fun a ha => (offb a ha).imp id fun h => by omega, offb⟩
    · rw [i64w (by omega), show ((i : Int) + 1) = ((i + 1 : Nat) : Int) by omega]
      exact ih (i + 1) (by omega) hl' K6 hx55 hy55
end
theorem law3 {W : World} {cs : List Value} {u1 : Value} (s0 : Sees Try.prog (mem0 W) 1048576 8 24 cs) (s1 : Sees Try.prog (mem0 W) 1048576 8 25 [u1]) : Cn Try.prog 3 #[.agg cs.toArray, u1] (mem0 W) fun v _ => v = .bool true := by
  obtain ⟨t, rfl, g⟩ := sees_tab s0
  obtain ⟨X, xc, x, e, hxl, hXo, hX, _⟩ := sees_ints s1
  simp at e
  subst e
  have hf : (mem0 W).floor ≤ (mem0 W).nb.size := Nat.le_refl _
  generalize mem0 W = M at g hf hX ⊢
  obtain ⟨A, c, l, k⟩ := t
  have hlen := g.len
  dsimp only at hlen
  have hb40 : l.length ≤ 1099511627776 := by omega
  have a0 := newI (M := M) A l.length c k
  have K0 : Keep M (M.new (tcells A l.length c k)) := .new _ _
  have hR := g.row
  dsimp only at hR
  show Cn Try.prog 3 #[.agg #[.slice A l.length c, .int .i64 k], .slice X x.length xc] M _
  refine w3_0 ⟨_, sl_of a0 rfl, _, int_of a0 rfl, Cn.mono (c10 (fb hf K0) (hR.keep K0) rfl hb40) ?_⟩
  intro v N3 hv
  refine copyT hf hR hv ?_
  intro B d B0 KB hin hjc
  have hfB := fb hf KB
  have KS := keep_res B0 2
  have sS := res_size B0 2
  have h1 := hin.next KS
  have l1 := lt_of_at hin.tv
  have l2 := lt_of_at hin.cv
  refine ⟨_, sl_of h1.cv rfl, _, int_of h1.cv rfl, _, sl_of h1.tv rfl, _, int_of h1.tv rfl, fun hh => ?_, fun _ => ?_⟩
  · have : 2 * (B0.nb.size + 0) = 2 * M.nb.size := Option.some.inj hh
    omega
  have C1 := upd_chg (M := B0.res 2) (S := (· = B0.nb.size + 0)) (b := tcells none 0 0 0) (j := B0.nb.size + 0) rfl
  have u1 := upd_at (M := B0.res 2) (b := tcells none 0 0 0) (j := B0.nb.size + 0) (by omega)
  have z1 := upd_size (M := B0.res 2) (j := B0.nb.size + 0) (tcells none 0 0 0)
  generalize (B0.res 2).upd (B0.nb.size + 0) (tcells none 0 0 0) = T1 at C1 u1 z1 ⊢
  have C2 := upd_chg (M := T1) (S := (· = B0.nb.size + 1)) (b := tcells none 0 0 0) (j := B0.nb.size + 1) rfl
  have u2 := upd_at (M := T1) (b := tcells none 0 0 0) (j := B0.nb.size + 1) (by omega)
  have v1 := at_chg u1 C2 (by omega)
  generalize T1.upd (B0.nb.size + 1) (tcells none 0 0 0) = T2 at C2 u2 v1 ⊢
  have hfl : T2.floor ≤ B0.nb.size := by rw [C2.floor, C1.floor, KS.floor]; exact hfB
  obtain ⟨M13, p1, M14, p2, C3, z3, u3⟩ := put2 (A := B) (n := l.length) (c := d) (k := k) v1 (by omega)
  have v2 := at_chg u2 C3 (by omega)
  obtain ⟨M15, p3, M16, p4, C4, z4, u4⟩ := put2 (A := A) (n := l.length) (c := c) (k := k) v2 (by rw [C3.floor]; omega)
  refine ⟨_, p1, _, p2, _, p3, _, p4, ?_⟩
  have K1 : Keep B0 T1 := Keep.step KS C1 fun p hp => by omega
  have K2 : Keep B0 T2 := Keep.step K1 C2 fun p hp => by omega
  have K3 : Keep B0 M14 := Keep.step K2 C3 fun p hp => by omega
  have K4 : Keep B0 M16 := Keep.step K3 C4 fun p hp => by omega
  have h4 := hin.next K4
  -- the copy's cells lie below
  obtain ⟨jj, _, jlt, Oj⟩ := own_one hin.own (by simp)
  obtain ⟨sp, hsp⟩ := own_addr Oj (by simp)
  refine c3_loop (M0 := B0) hfB (hX.keep KB) rfl hxl hb40 hin (s0 := B0.nb.size + 0) (s1 := B0.nb.size + 1) (by omega) (by omega) (by omega) x.length 0 (Nat.zero_add _) hb40 K4 ⟨at_chg u3 C4 (by omega), row_pre h4.own.row, fun a ha => ?_⟩ ⟨u4, h4.row, fun a ha => .inl (g.old a ha)⟩
  rw [hsp] at ha
  obtain rfl := Option.some.inj ha
  right; dsimp only; omega
end Go.Zt
