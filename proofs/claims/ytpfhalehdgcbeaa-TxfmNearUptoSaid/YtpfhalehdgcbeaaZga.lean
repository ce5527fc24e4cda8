/- Layer 8: Inverse of the program, told. -/
import Derived.Test.YtpfhalehdgcbeaaZgZ
set_option linter.unusedSimpArgs false
set_option linter.unusedVariables false
namespace Go.Zt
open Go Go.Sim Go.Proofs Go.RowKit

def bitsN (n : Nat) : Nat := if n = 4 then 0 else if n = 8 then 1 else 2
theorem bitsN_le (n : Nat) : bitsN n ≤ 8 := by unfold bitsN; split <;> (try split) <;> omega
def inG0 (s : Nat) (x : List Int) (t : Nat) : Nat → Nat → Int := fun r c => if r < s ∧ c < s ∧ r * s + c < t then clipS (gx x (r * s + c)) else 0
theorem inG0_set {s : Nat} {x : List Int} {t : Nat} (ht : t < s * s) : setG (inG0 s x t) (t / s) (t % s) (clipS (gx x t)) = inG0 s x (t + 1) := by
  have hs : 0 < s := by
    rcases Nat.eq_zero_or_pos s with h | h
    · subst h; omega
    · exact h
  have h1 : t / s < s := Nat.div_lt_of_lt_mul ht
  have h2 : t % s < s := Nat.mod_lt _ hs
  have h3 : t / s * s + t % s = t := by have := Nat.div_add_mod t s; rw [Nat.mul_comm] at this; exact this
  funext r c
  unfold setG inG0
  by_cases h : r = t / s ∧ c = t % s
  · obtain ⟨rfl, rfl⟩ := h
    rw [if_pos ⟨rfl, rfl⟩, if_pos ⟨h1, h2, by omega⟩, h3]
  · rw [if_neg h]
    by_cases h4 : r < s ∧ c < s ∧ r * s + c < t
    · rw [if_pos h4, if_pos ⟨h4.1, h4.2.1, by omega⟩]
    · rw [if_neg h4, if_neg]
      rintro ⟨h5, h6, h7⟩
      have h8 : r * s + c = t := by
        rcases Nat.lt_or_ge (r * s + c) t with h8 | h8
        · exact absurd ⟨h5, h6, h8⟩ h4
        · omega
      have := ix_div (n := s) (r := r) h6
      rw [h8] at this
      exact h ⟨this.1.symm, this.2.symm⟩
theorem inG0_0 {s : Nat} {x : List Int} : inG0 s x 0 = fun _ _ => 0 := by
  funext r c; unfold inG0; rw [if_neg (by omega)]
theorem inG0_b {s : Nat} {x : List Int} {t r c : Nat} : -32768 ≤ inG0 s x t r c ∧ inG0 s x t r c ≤ 32767 := by
  unfold inG0; split
  · exact clipS_b _
  · omega
theorem grid_zero {n : Nat} : gridL n (fun _ _ => 0) = List.replicate (n * n) 0 := by unfold gridL; rw [zeros]
def fI (n : Nat) (typ v : Int) : Int := if typ = 9 then rdS (bitsN n) typ v else clipS (rdS (bitsN n) typ v)
def invY1 (n s : Nat) (typ : Int) (x : List Int) (k : Nat) : List Int := invS (kindsS typ).1.toNat (lineL true n (inG0 s x (s * s)) k)
def invH1 (n s : Nat) (typ : Int) (x : List Int) : Nat → Nat → Int := updG true (fun k i => fI n typ (gx (invY1 n s typ x k) i)) s 0 (inG0 s x (s * s))
def invY2 (n s : Nat) (typ : Int) (x : List Int) (k : Nat) : List Int := invS (kindsS typ).2.toNat (lineL false n (invH1 n s typ x) k)
def invH2 (n s : Nat) (typ : Int) (x : List Int) : Nat → Nat → Int := updG false (fun k i => rdS 4 typ (gx (invY2 n s typ x k) i)) n 0 (invH1 n s typ x)
def invB (n typ : Int) (x : List Int) : List Int × Nat := if askS n typ x (min32 n) 1048576 = 0 then (gridL n.toNat (invH2 n.toNat (min32 n).toNat typ x), 0) else ([], askS n typ x (min32 n) 1048576)
theorem back_small {x : List Int} (h4 : x.length = 4) (h : ∀ i, -32768 ≤ gx x i ∧ gx x i ≤ 32767) : ∀ i, -1048576 ≤ gx (invS 3 x) i ∧ gx (invS 3 x) i ≤ 1048576 := by
  have a0 := h 0
  have a1 := h 1
  have a2 := h 2
  have a3 := h 3
  show ∀ i, -1048576 ≤ gx (backS (gx x 0) (gx x 1) (gx x 2) (gx x 3)) i ∧ gx (backS (gx x 0) (gx x 1) (gx x 2) (gx x 3)) i ≤ 1048576
  generalize gx x 0 = a at *
  generalize gx x 1 = b at *
  generalize gx x 2 = c at *
  generalize gx x 3 = d at *
  rw [back_e rfl]
  have h2 : 2 * ((a + b - (c - d)) / 2) ≤ a + b - (c - d) ∧ a + b - (c - d) ≤ 2 * ((a + b - (c - d)) / 2) + 1 := by omega
  generalize (a + b - (c - d)) / 2 = e at h2 ⊢
  intro i
  match i with
  | 0 => show -1048576 ≤ a + b - (e - d) ∧ a + b - (e - d) ≤ 1048576; omega
  | 1 => show -1048576 ≤ e - d ∧ e - d ≤ 1048576; omega
  | 2 => show -1048576 ≤ e - b ∧ e - b ≤ 1048576; omega
  | 3 => show -1048576 ≤ c - d + (e - b) ∧ c - d + (e - b) ≤ 1048576; omega
  | i + 4 => show -1048576 ≤ (0 : Int) ∧ (0 : Int) ≤ 1048576; omega
theorem gx_line {b : Bool} {n k i : Nat} {G : Nat → Nat → Int} : gx (lineL b n G k) i = lnG b G k i ∨ gx (lineL b n G k) i = 0 := by
  by_cases h : i < n
  · exact .inl (gx_map h)
  · right; unfold gx; rw [List.getD_eq_getElem?_getD, List.getElem?_eq_none (by rw [lineL_len]; omega)]; rfl
section
variable {n s : Nat} {typ : Int} {x : List Int}
theorem lnG_b {b : Bool} {k i : Nat} {t : Nat} : -32768 ≤ lnG b (inG0 s x t) k i ∧ lnG b (inG0 s x t) k i ≤ 32767 := by
  unfold lnG; split <;> exact inG0_b
theorem may_y1 (hz : Szt n typ) (k : Nat) : mayB (kindsS typ).1 (lineL true n (inG0 s x (s * s)) k) = true :=
  may_line hz.k1 fun i _ => by have := lnG_b (s := s) (x := x) (b := true) (k := k) (i := i) (t := s * s); omega
theorem h1_near (hz : Szt n typ) (r c : Nat) : -1048576 ≤ invH1 n s typ x r c ∧ invH1 n s typ x r c ≤ 1048576 := by
  have e : invH1 n s typ x r c = if r < s ∨ (r = s ∧ c < 0) then fI n typ (gx (invY1 n s typ x r) c) else inG0 s x (s * s) r c := rfl
  rw [e]
  split
  · show -1048576 ≤ fI n typ (gx (invY1 n s typ x r) c) ∧ fI n typ (gx (invY1 n s typ x r) c) ≤ 1048576
    unfold fI
    split
    · rename_i h9
      obtain ⟨h4, hk⟩ := hz.wht h9
      unfold rdS invY1
      rw [if_pos h9, hk]
      refine back_small (by rw [lineL_len]; exact h4) (fun i => ?_) _
      rcases gx_line (b := true) (n := n) (k := r) (i := i) (G := inG0 s x (s * s)) with h | h
      · rw [h]; exact lnG_b
      · rw [h]; omega
    · have := clipS_b (rdS (bitsN n) typ (gx (invY1 n s typ x r) c)); omega
  · have := inG0_b (s := s) (x := x) (t := s * s) (r := r) (c := c); omega
theorem may_y2 (hz : Szt n typ) (k : Nat) : mayB (kindsS typ).2 (lineL false n (invH1 n s typ x) k) = true :=
  may_line hz.k2 fun i _ => h1_near hz i k
end
/-! ### The walk -/
theorem own_one {S : Nat → Prop} {M : Mem} {e : TypeId} {A : Option Addr} {c : Nat} {L : List Value} (h : Own S M e A c L) (hL : L ≠ []) : ∃ j, S j ∧ j < M.nb.size ∧ Own (· = j) M e A c L := by
  rcases h with ⟨_, h, _⟩ | ⟨j, cs, sp, h1, h2, h3, h4, h5⟩
  · exact absurd h hL
  · exact ⟨j, h3, lt_of_at h4, .inr ⟨j, cs, sp, h1, h2, rfl, h4, h5⟩⟩
theorem madeG {M1 : Mem} {k : Nat} (hk : k ≤ 8192) : ∃ A' M2, makeP Try.prog 22 (.int .i64 (k : Nat)) (.int .i64 (k : Nat)) M1 = some (.slice A' k k, M2) ∧ Keep M1 M2 ∧ Own (fun j => M1.nb.size ≤ j) M2 3 A' k (Ints (List.replicate k 0)) := by
  obtain ⟨A', M2, g1, g2, g3, g4⟩ := make_own em22 (S := fun j => M1.nb.size ≤ j) (M := M1) (k := .i64) (k' := .i64) (l := (k : Nat)) (c := (k : Nat)) (by omega) (Int.le_refl _) (by omega) (Nat.le_refl _)
  refine ⟨A', M2, g1, Keep.step (.refl _) g2 fun j hj => hj, ?_⟩
  rw [Ints, List.map_replicate]; exact g4
/-- A function value that rounds, and clips but for the fourth kind. -/
theorem fn34 {jc jg jt : Nat} {M : Mem} {gv : Value} {bts : Nat} {typ : Int} (hb : bts ≤ 8) (hF : FnOk jc M gv (rdS bts typ)) (hg : jg ≠ jc) (ht : jt ≠ jc) (ag : M.nb[jg]? = some (.cells #[gv] 36)) (at_ : M.nb[jt]? = some (.cells #[.int .i64 typ] 3)) :
    FnOk jc M (.func (.func 34) #[] #[.pointer (some ⟨2 * jg, 0, none⟩), .pointer (some ⟨2 * jt, 0, none⟩)]) (fun v => if typ = 9 then rdS bts typ v else clipS (rdS bts typ v)) := by
  intro N hN hk v hv
  refine ⟨(34, #[.int .i64 v, .pointer (some ⟨2 * jg, 0, none⟩), .pointer (some ⟨2 * jt, 0, none⟩)]), by kernel_rfl, ?_⟩
  obtain ⟨q, q1, q2⟩ := hF { N with floor := N.nb.size } (Nat.le_refl _) hk v hv
  refine w34_0 ⟨_, rfl, gv, (cell_of (hk _ _ hg ag)).trans rfl, _, rfl, _, int_of (hk _ _ ht at_) rfl, q, q1, Cn.mono q2 ?_⟩
  rintro _ R ⟨rfl, KR⟩
  exact ⟨_, rfl, Cn.eq c35 ⟨_, rfl, rfl, KR.unfl⟩⟩
end Go.Zt

