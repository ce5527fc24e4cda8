/- Layer 8: TxfmInverts. -/
import Derived.Test.YtpfhalehdgcbeaaZgg
import Derived.Test.YtpfhalehdgcbeaaZgDg
set_option linter.unusedSimpArgs false
set_option linter.unusedVariables false
namespace Go.Zt
open Go Go.Sim Go.Proofs Go.RowKit

theorem c14n {M0 N1 : Mem} {A B X Y : Option Addr} {a b x : List Int} {ca cb cx cy na nb' nx : Nat} {e f : Nat} {M : Mem} (hf : M0.floor ≤ M0.nb.size) (K1 : Keep M0 N1) (K : Keep N1 M) (hX : Own (fun j => M0.nb.size ≤ j) N1 3 X cx (Ints x)) (hY : Row M0 Y (Ints x)) (hO : Own (fun j => N1.nb.size ≤ j) M 3 A ca (Ints a)) (hB : Row M B (Ints b))
    (ha : na = a.length) (hb : nb' = b.length) (hx : nx = x.length) (he : a = b ∧ e = f) (hab : na ≤ 1048576) (hxb : nx ≤ 1048576) :
    Cn Try.prog 14 #[.slice A na ca, .int .i64 (e : Nat), .slice B nb' cb, .int .i64 (f : Nat), .slice X nx cx, .slice Y nx cy] M fun v N => v = .bool true ∧ Keep M0 N := by
  have KM := K1.trans K
  refine Cn.mono (c14 (S := fun j => N1.nb.size ≤ j) hO hB ((hX.mono (T := fun j => ¬ N1.nb.size ≤ j) fun j hlt _ => by omega).chg K fun _ _ _ h => h) (fun N C => ?_) (fun j hj => ?_) ha hb hx he hab hxb) ?_
  · exact hY.keep (Keep.step KM C fun j hj => Nat.le_trans K1.size hj)
  · rw [KM.floor]; exact Nat.le_trans hf (Nat.le_trans K1.size hj)
  · rintro _ N ⟨rfl, C⟩
    exact ⟨rfl, Keep.step KM C fun j hj => Nat.le_trans K1.size hj⟩
theorem len_inv (n typ : Int) (x : List Int) : (invB n typ x).1.length ≤ 1048576 := by
  unfold invB
  split
  · rename_i h
    obtain ⟨hsz, htyp, _, _⟩ := ask_0 h
    obtain ⟨hz, en⟩ := szt_of hsz htyp
    have h64 : n.toNat ≤ 64 := by have := hz.sz; omega
    have := Nat.mul_le_mul h64 h64
    rw [gridL_len]; omega
  · simp
theorem c3 {M : Mem} (hf : M.floor ≤ M.nb.size) {A : Option Addr} {n c : Nat} {x : List Int} (h4 : Row M A (Ints x)) (h1 : n = x.length) (h3 : n ≤ 1048576) {sz typ : Int} : Cn Try.prog 3 #[.int .i64 sz, .int .i64 typ, .slice A n c] M fun v _ => v = .bool true := by
  refine w3_0 (Cn.mono (c11 hf h4 h1 h3) ?_)
  rintro _ N1 ⟨X, cx, rfl, K1, O1⟩
  refine ⟨_, rfl, Cn.mono (c12 (sz := sz) (typ := typ) (x := x) (fb hf K1) O1.row rfl (by omega)) ?_⟩
  have hl := len_inv sz typ x
  intro v2 N2 h2'
  have t13 := fun (M : Mem) (hf : M.floor ≤ M.nb.size) (hX : Row M A (Ints x)) => c13 (cx := c) (sz := sz) (typ := typ) hf hX h1 h3
  generalize invB sz typ x = q at hl h2' t13
  obtain ⟨a, e⟩ := q
  obtain ⟨A2, c2, rfl, K2, O2, _⟩ := h2'
  have K02 := K1.trans K2
  refine ⟨_, rfl, _, rfl, _, rfl, Cn.mono (t13 _ (fb hf K02) (h4.keep K02)) ?_⟩
  rintro _ N3 ⟨A3, c3, rfl, K3, O3, _⟩
  have ct := c14n (e := e) (f := e) (a := a) (b := a) (x := x) (A := A2) (ca := c2) (na := a.length) (B := A3) (cb := c3) (nb' := a.length) (X := X) (Y := A) (cx := cx) (cy := c) (nx := x.length) hf K1 (K2.trans K3) O1 h4 (O2.chg K3 fun _ _ _ h => h) O3.row rfl rfl rfl ⟨rfl, rfl⟩ hl (by omega)
  subst h1
  refine ⟨_, rfl, _, rfl, _, rfl, Cn.mono ct ?_⟩
  rintro _ N4 ⟨rfl, K4⟩
  refine ⟨_, rfl, fun _ => Cn.mono (c15 (fb hf K4)) ?_, fun h => (by cases h)⟩
  rintro _ N5 ⟨rfl, _⟩
  exact ⟨_, rfl, rfl⟩
theorem law3 {W : World} {u0 u1 u2 : Value} (s0 : Sees Try.prog (mem0 W) 1048576 8 3 [u0]) (s1 : Sees Try.prog (mem0 W) 1048576 8 3 [u1]) (s2 : Sees Try.prog (mem0 W) 1048576 8 22 [u2]) : Cn Try.prog 3 #[u0, u1, u2] (mem0 W) fun v _ => v = .bool true := by
  obtain ⟨sz, e0, _⟩ := sees_int (q := .i64) (by kernel_rfl) s0
  obtain ⟨typ, e1, _⟩ := sees_int (q := .i64) (by kernel_rfl) s1
  obtain ⟨A, n, c, x, e, h1, h2, h3, h4, _⟩ := sees_ints (e := 3) (by kernel_rfl) (by kernel_rfl) s2
  obtain rfl : u0 = _ := by simpa using e0
  obtain rfl : u1 = _ := by simpa using e1
  obtain rfl : u2 = _ := by simpa using e
  exact c3 (Nat.zero_le _) h4 h1 h3
end Go.Zt

