/- Layer 8: TxfmInverts. -/
import Derived.Test.YtpfhalehdgcbeaaZgg
import Derived.Test.YtpfhalehdgcbeaaZgDg
set_option linter.unusedSimpArgs false
set_option linter.unusedVariables false
namespace Go.Zt
open Go Go.Sim Go.Proofs Go.RowKit

theorem c14n {M0 N1 : Mem} {A B X Y : Option Addr} {a b x : List Int} {ca cb cx cy na nb' nx : Nat} {e f : Nat} {M : Mem} (hf : M0.floor ≤ M0.nb.size) (K1 : Keep M0 N1) (K : Keep N1 M) (hX : Own (fun j => M0.nb.size ≤ j) N1 3 X cx (Ints x)) (hY : Row M0 Y (Ints x)) (hO : Own (fun j => N1.nb.size ≤ j) M 3 A ca (Ints a)) (hB : Row M B (Ints b))
    (ha : na = a.length) (hb : nb' = b.length) (hx : nx = x.length) (he : a = b ∧ e = f) (hab : na ≤ 1048576) (hxb : nx ≤ 1048576) :
    Cn Try.prog 14 #[.slice A na ca, .int .i64 (e : Nat), .slice B nb' cb, .int .i64 (f : Nat), .slice X nx cx, .slice Y nx cy] M fun v N => v = .bool true ∧ Keep M0 N := by
  have KM := K1.trans K
  refine Cn.mono (c14 (S := fun j => N1.nb.size ≤ j) hO hB ((hX.mono (T := fun j => ¬ N1.nb.size ≤ j) fun j hlt _ => by omega).chg K fun _ _ _ h => h) (fun N C => ?_) (fun j hj => ?_) ha hb hx he hab hxb) ?_
  · exact hY.keep (Keep.step KM C fun j hj => Nat.le_trans K1.size hj)
  · rw [KM.floor]; exact Nat.le_trans hf (Nat.le_trans K1.size hj)
  · rintro _ N ⟨rfl, C⟩
    exact ⟨rfl, Keep.step KM C fun j hj => Nat.le_trans K1.size hj⟩
theorem len_fwd (n typ : Int) (x : List Int) : (fwdB n typ x).1.length ≤ 1048576 := by
  unfold fwdB
  split
  · have hms2 : (min32 n).toNat ≤ 32 := by unfold min32; split <;> omega
    have := Nat.mul_le_mul hms2 hms2
    rw [subL_len]; omega
  · simp
end Go.Zt

