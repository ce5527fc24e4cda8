/- Layer 19: arguments that are lists of pieces; what UnitsJoins comes to. -/
import Derived.Test.YtbbdggpfhcgbpaaZcT
import Derived.Test.YtbbdggpfhcgbpaaZcDd
set_option linter.unusedSimpArgs false
set_option linter.unusedVariables false
namespace Go.Zt
open Go Go.Sim Go.Proofs Go.RowKit

/-- A piece of an argument. -/
structure ObG (M : Mem) (B : Nat) (o : Ob) : Prop where
  row : Row M o.A (U8 o.b)
  old : Old o.A
  byt : Byt o.b
  len : o.b.length ≤ B
  cap : o.b.length ≤ o.c
  nil : o.A = none → o.c = 0
  wf : -9223372036854775808 ≤ o.k ∧ o.k ≤ 9223372036854775807
theorem sees_ob {M : Mem} {B k : Nat} {r : List Value} (h : Sees Try.prog M B (k + 3) 44 r) : ∃ o : Ob, r = o.cells ∧ ObG M B o := by
  obtain ⟨h1, h2⟩ := sees_struct (l := [(0, 3), (1, 22)]) (n := 2) (by kernel_rfl) (by kernel_rfl) h
  match r, h1 with
  | [a, b], _ =>
    have c3 : Try.prog.cellsOf 3 = 1 := by kernel_rfl
    have c22 : Try.prog.cellsOf 22 = 1 := by kernel_rfl
    have s0 := h2 (0, 3) (by simp)
    have s1 := h2 (1, 22) (by simp)
    rw [c3] at s0
    rw [c22] at s1
    obtain ⟨x, e0, w0⟩ := sees_int (q := .i64) (by kernel_rfl) s0
    obtain ⟨A, n, c, b', e1, g1, g2, g3, g4, g5, g6, g7⟩ := sees_bytes s1
    simp at e0 e1
    subst e0 e1 g1
    exact ⟨⟨x, b', A, c⟩, rfl, g5, g4, g6, g3, g2, g7, wf_i64 w0⟩
theorem sees_obs {M : Mem} {B k : Nat} {r : List Value} (h : Sees Try.prog M B (k + 4) 24 r) : ∃ A n c, ∃ l : List Ob, r = [.slice A n c] ∧ n = l.length ∧ n ≤ c ∧ n ≤ B ∧ Old A ∧ Row M A (Obs l) ∧ (A = none → c = 0) ∧ ∀ o ∈ l, ObG M B o := by
  obtain ⟨A, n, c, l, rfl, h1, h2, h3, h4, h5, h6, h7⟩ := sees_slice (f := Ob.cells) (good := ObG M B) (e := 44) (by kernel_rfl) h fun r hr => sees_ob hr
  exact ⟨A, n, c, l, rfl, h1, h2, h3, h5, h6, h4, h7⟩
/-- An argument's list stays readable. -/
theorem obr_old {S : Nat → Prop} {M N : Mem} {A : Option Addr} {B : Nat} {l : List Ob} (hA : Row M A (Obs l)) (hAo : Old A) (hg : ∀ o ∈ l, ObG M B o) (K : Chg S M N) : ObR N A l :=
  ⟨hA.old hAo K, fun o ho => (hg o ho).row.old (hg o ho).old K⟩
section
variable {A : Option Addr} {n c : Nat} {l : List Ob}
theorem c4_spoil {A1 : Option Addr} {n1 c1 : Nat} {x8 : Bool} {Q : Value → Mem → Prop} {m3 : Nat} {M0 : Mem} (hf : ∀ i, m3 ≤ i → M0.floor ≤ i) {A2 : Option Addr} {c2 : Nat} {z : Int}
    (hE : ∀ M', Chg (fun i => m3 ≤ i) M0 M' → ∀ z : Int, ∀ n2 : Nat, z = n2 → A4_2 A n c A1 n1 c1 A2 n2 c2 x8 z M' Q) :
    ∀ (k i : Nat) (l8 : List Int) {M : Mem}, i + k = l8.length → l8.length ≤ 4611686018427387904 → Chg (fun i => m3 ≤ i) M0 M → Own (fun i => m3 ≤ i) M 5 A2 c2 (l8.map (Value.int .u8)) →
      A4_2 A n c A1 n1 c1 A2 l8.length c2 x8 i M Q
  | 0, i, l8, M, hi, hl, hC, hO => hE M hC _ _ (by omega)
  | k + 1, i, l8, M, hi, hl, hC, hO => by
    have hlt : i < l8.length := by omega
    obtain ⟨a, i1, i2⟩ := hO.row.int1 (n := l8.length) (i := i) (z := i) (k := .u8) (x := l8[i]) rfl hlt (by simp [hlt])
    obtain ⟨a2, i3, M', P1, C1, hs1, O1⟩ := hO.put1 (fun i h => by rw [hC.floor]; exact hf i h) (n := l8.length) (i := i) (z := i) (v := .int .u8 (IntKind.u8.wrap (((BitVec.ofInt (IntKind.bits .u8) l8[i] ^^^ BitVec.ofInt (IntKind.bits .u8) 255).toNat : Nat) : Int))) rfl hlt (by simp [hlt]) rfl
    refine w4_2 ⟨fun _ => ⟨_, i1, _, i2, _, i3, _, P1, ?_⟩, fun h => by omega⟩
    rw [i64w (by omega), show ((i : Int) + 1) = ((i + 1 : Nat) : Int) by omega]
    have := c4_spoil (c2 := c2) (z := z) hf hE k (i + 1) (l8.set i (IntKind.u8.wrap (((BitVec.ofInt (IntKind.bits .u8) l8[i] ^^^ BitVec.ofInt (IntKind.bits .u8) 255).toNat : Nat) : Int))) (M := M') (by simp; omega) (by simpa using hl) (hC.trans C1) (by rw [List.map_set]; exact O1)
    rw [List.length_set] at this
    exact this
theorem joinS_len : ∀ (l : List (Int × List Nat)) (acc : List Nat), (joinS acc l).1.length ≤ acc.length + l.length * 16777300
  | [], acc => by simp [joinS]
  | x :: r, acc => by
    rw [joinS]
    split
    · simp
    split
    · simp
    · have := joinS_len r (acc ++ ((16 * x.1).toNat :: pack (lebB 5 x.2.length)) ++ x.2)
      have h2 := lebB_len 5 x.2.length
      simp [pack_len] at this ⊢
      omega
theorem c4 {M : Mem} (hf : M.floor ≤ M.nb.size) (hA : Row M A (Obs l)) (hAo : Old A) (hn : n = l.length) (hb : n ≤ 1048576) (hg : ∀ o ∈ l, ObG M 1048576 o) :
    Cn Try.prog 4 #[.slice A n c] M fun v _ => v = .bool true := by
  have hbb : ∀ o ∈ l, o.b.length ≤ 4294967296 := fun o ho => Nat.le_trans (hg o ho).len (by decide)
  refine w4_0 (Cn.mono (c17 hf ⟨hA, fun o ho => (hg o ho).row⟩ hn (by omega) hbb) ?_)
  rintro v N ⟨A2, c2, l2, rfl, hp, K1, O2⟩
  have hl2 : l2.length = n := by
    have := congrArg List.length hp
    simp at this; omega
  have hf1 : N.floor ≤ N.nb.size := by rw [K1.floor]; exact Nat.le_trans hf K1.size
  refine ⟨_, rfl, Cn.mono (c18 hf1 O2.rd rfl (show l2.length ≤ _ by omega)) ?_⟩
  rw [hp]
  rintro v2 N2 ⟨A3, c3, rfl, K2, O3⟩
  have hf2 : N2.floor ≤ N2.nb.size := by rw [K2.floor]; exact Nat.le_trans hf1 K2.size
  refine ⟨_, rfl, _, rfl, _, rfl, Cn.mono (c19 hf2 (obr_old hA hAo hg (K1.trans K2)) hn (by omega)) ?_⟩
  rintro v3 N3 ⟨A4, c4, rfl, K3, O4⟩
  have O3' := O3.chg K3 fun _ _ _ x => x
  have hjl := joinS_len (l.map Ob.pc) []
  rw [List.length_map] at hjl
  simp only [List.length_nil] at hjl
  refine ⟨_, rfl, _, rfl, _, rfl, Cn.eq (c15 O3'.row O4.row rfl rfl (show (joinS [] (l.map Ob.pc)).1.length ≤ _ by omega)) ⟨_, rfl, fun _ => ?_, fun h => absurd h (by simp)⟩⟩
  rw [show ((((joinS [] (l.map Ob.pc)).2 : Nat) : Int) == (((joinS [] (l.map Ob.pc)).2 : Nat) : Int)) = true by simp]
  refine w4_1 ?_
  have hlen : (joinS [] (l.map Ob.pc)).1.length = ((joinS [] (l.map Ob.pc)).1.map fun x : Nat => (x : Int)).length := by rw [List.length_map]
  show A4_2 A n c A2 l2.length c2 A3 (joinS [] (l.map Ob.pc)).1.length c3 true 0 N3 _
  rw [hlen]
  have O2' := (O2.keep K2).keep K3
  refine c4_spoil (m3 := N.nb.size) (z := 0) (fun q hq => by rw [K3.floor, K2.floor]; exact Nat.le_trans hf1 hq) (fun M' hC z n2 hz => ?_) _ 0 ((joinS [] (l.map Ob.pc)).1.map fun x : Nat => (x : Int)) (Nat.zero_add _) (by rw [List.length_map]; omega) (.refl _) (by rw [List.map_map]; exact O3')
  have hR2 : ObR M' A2 l2 := (O2.chg ((K2.mono fun _ _ x => x.elim).trans ((K3.mono fun _ _ x => x.elim).trans hC)) fun i _ hi => by omega).rd
  refine w4_2 ⟨fun h => by omega, fun _ => ⟨fun _ => ?_, fun h => (by cases h)⟩⟩
  have hbb2 : ∀ o ∈ l2, o.b.length ≤ 4611686018427387904 := fun o ho => by
    have h1 : o.pc ∈ l2.map Ob.pc := List.mem_map_of_mem ho
    rw [hp] at h1
    obtain ⟨o', h2, h3⟩ := List.mem_map.1 h1
    have : o'.b = o.b := congrArg Prod.snd h3
    rw [← this]; exact Nat.le_trans (hbb o' h2) (by decide)
  refine Cn.eq (c13 hR2 (obr_old hA hAo hg (((K1.mono fun _ _ x => x.elim).trans ((K2.mono fun _ _ x => x.elim).trans (K3.mono fun _ _ x => x.elim))).trans hC)) rfl hn (show l2.length ≤ _ by omega) hbb2) ⟨_, rfl, fun _ => Cn.known (by rfl) ⟨_, rfl, rfl⟩, fun h => absurd h (by simp [hp])⟩
end
theorem law4 {W : World} {u0 : Value} (s0 : Sees Try.prog (mem0 W) 1048576 8 24 [u0]) : Cn Try.prog 4 #[u0] (mem0 W) fun v _ => v = .bool true := by
  obtain ⟨A, n, c, l, e, h1, h2, h3, h4, h5, h6, h7⟩ := sees_obs s0
  simp at e
  subst e
  exact c4 (Nat.le_refl _) h5 h4 h1 h3 h7
end Go.Zt
