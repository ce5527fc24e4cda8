/- Layer 8: Forward of the program, walked. -/
import Derived.Test.YtpfhalehdgcbeaaZgc
set_option linter.unusedSimpArgs false
set_option linter.unusedVariables false
namespace Go.Zt
open Go Go.Sim Go.Proofs Go.RowKit

section
variable {M0 : Mem} {X : Option Addr} {lx cx : Nat} {typ : Int} {x : List Int}
theorem c16 (hf : M0.floor ≤ M0.nb.size) (hX : Row M0 X (Ints x)) (hlx : lx = x.length) (hb0 : lx ≤ 1048576) {sz : Int} :
    Cn Try.prog 16 #[.int .i64 sz, .int .i64 typ, .slice X lx cx] M0 (TfR M0 (fwdB sz typ x)) := by
  refine w16_0 (Cn.mono (c27 hf hX hlx hb0 (by decide)) ?_)
  rintro _ M1 ⟨rfl, K1⟩
  unfold fwdB
  refine ⟨_, rfl, fun h => ?_, fun h => ?_⟩
  · rw [if_neg (by omega)]
    exact ⟨none, 0, rfl, K1, Own.empty, Nat.le_refl _⟩
  have h0 : askS sz typ x sz 255 = 0 := by omega
  rw [if_pos h0]
  obtain ⟨hsz, htyp, hlen, hin⟩ := ask_0 h0
  obtain ⟨hz, en⟩ := szt_of hsz htyp
  have hm : (if 32 < sz then 32 else sz) = min32 sz := rfl
  rw [hm]
  have hms : min32 sz = ((min32 sz).toNat : Nat) := by unfold min32; split <;> omega
  have hms2 : (min32 sz).toNat ≤ sz.toNat ∧ 0 < (min32 sz).toNat ∧ (min32 sz).toNat ≤ 32 := by unfold min32; split <;> omega
  generalize hn : sz.toNat = n at *
  generalize hs : (min32 sz).toNat = s at *
  rw [hms]
  subst en
  have hn64 : n ≤ 64 := by have := hz.sz; omega
  have hnn : n * n ≤ 64 * 64 := Nat.mul_le_mul hn64 hn64
  have hxl : x.length = n * n := by
    rw [← Int.natCast_mul, i64w (by omega)] at hlen; omega
  have hpos : 0 < n * n := Nat.mul_pos (by have := hz.sz; omega) (by have := hz.sz; omega)
  refine Cn.mono (c44 (fb hf K1) (hX.keep K1) hlx hb0 (by intro h; rw [h] at hxl; simp at hxl; omega)) ?_
  rintro _ M2 ⟨A, cap, rfl, K2, O2⟩
  have K02 := K1.trans K2
  have hcap := own_len O2
  rw [List.length_map, hxl] at hcap
  rw [hxl]
  obtain ⟨jc, j1, j2, j3⟩ := own_one O2 (by intro h; have := congrArg List.length h; rw [List.length_map, hxl] at this; simp at this; omega)
  have b0 := Mem.new_at M2 (.cells #[.int .i64 0, .slice none 0 0] 43)
  have Kb : Keep M2 (M2.new (.cells #[.int .i64 0, .slice none 0 0] 43)) := .new _ _
  have sb := Mem.new_size M2 (.cells #[.int .i64 0, .slice none 0 0] 43)
  have hf2 := fb hf K02
  have p1 := put_of (i := 0) (v := .int .i64 (n : Nat)) b0 hf2 (by decide) rfl
  have u1 := upd_at (M := M2.new (.cells #[.int .i64 0, .slice none 0 0] 43)) (b := .cells ((#[Value.int .i64 0, .slice none 0 0] : Array Value).setIfInBounds 0 (.int .i64 (n : Nat))) 43) (j := M2.nb.size) (by omega)
  have C1 := upd_chg (M := M2.new (.cells #[.int .i64 0, .slice none 0 0] 43)) (S := (· = M2.nb.size)) (b := .cells ((#[Value.int .i64 0, .slice none 0 0] : Array Value).setIfInBounds 0 (.int .i64 (n : Nat))) 43) (j := M2.nb.size) rfl
  have p2 := put_of (i := 1) (v := .slice A (n * n) cap) u1 hf2 (by simp) rfl
  have u2 := upd_at (M := (M2.new (.cells #[.int .i64 0, .slice none 0 0] 43)).upd M2.nb.size (.cells ((#[Value.int .i64 0, .slice none 0 0] : Array Value).setIfInBounds 0 (.int .i64 (n : Nat))) 43)) (b := .cells (((#[Value.int .i64 0, .slice none 0 0] : Array Value).setIfInBounds 0 (.int .i64 (n : Nat))).setIfInBounds 1 (.slice A (n * n) cap)) 43) (j := M2.nb.size) (by rw [upd_size]; omega)
  have C2 := C1.trans (upd_chg (S := (· = M2.nb.size)) (b := .cells (((#[Value.int .i64 0, .slice none 0 0] : Array Value).setIfInBounds 0 (.int .i64 (n : Nat))).setIfInBounds 1 (.slice A (n * n) cap)) 43) (j := M2.nb.size) rfl)
  have K3 : Keep M2 _ := Keep.step Kb C2 fun j hj => Nat.le_of_eq hj.symm
  refine ⟨_, rfl, _, p1, _, p2, ?_⟩
  generalize Mem.upd _ M2.nb.size (.cells (((#[Value.int .i64 0, .slice none 0 0] : Array Value).setIfInBounds 0 (.int .i64 (n : Nat))).setIfInBounds 1 (.slice A (n * n) cap)) 43) = M3 at K3 u2
  have u2 : M3.nb[M2.nb.size]? = some (.cells #[.int .i64 (n : Nat), .slice A (n * n) cap] 43) := u2
  have K03 := K02.trans K3
  have hne : M2.nb.size ≠ jc := by omega
  have hc : M0.nb.size ≤ jc := Nat.le_trans K1.size j1
  have O3 : Own (· = jc) M3 3 A cap (Ints (gridL n (fwG0 n x))) := by
    rw [fwG0_grid hxl]; exact j3.chg K3 fun _ _ _ h => h
  have hjc3 : jc < M3.nb.size := Nat.lt_of_lt_of_le j2 K3.size
  refine Cn.eq c29 ⟨_, rfl, _, rfl, _, rfl, _, int_of u2 rfl, _, sl_of u2 rfl, _, int_of u2 rfl, _, sl_of u2 rfl, ?_⟩
  refine Cn.mono (c30 (b := 0) (by decide) (M := { M3 with floor := M3.nb.size }) (Nat.le_refl _) hjc3) ?_
  rintro gv N4 ⟨_, K4, hF4⟩
  have K4' : Keep M3 { N4 with floor := M3.floor } := K4.unfl
  have hF4' : FnOk jc { N4 with floor := M3.floor } gv (rdS 0 typ) := hF4
  dsimp only
  generalize { N4 with floor := M3.floor } = M4 at K4' hF4'
  have K04 := K03.trans K4'
  have hjc4 : jc < M4.nb.size := Nat.lt_of_lt_of_le hjc3 K4'.size
  have hfj : ∀ {M : Mem}, M.floor = M0.floor → M.floor ≤ jc := fun h => by rw [h]; exact Nat.le_trans hf hc
  refine Cn.mono (c31 (count := n) (ys := fwY1 n typ x) (fb hf K04) (hfj K04.floor) hjc4 hn64 (Nat.le_refl n) lineCol hF4' trFwd (O3.chg K4' fun _ _ _ h => h) (fun k hk => fwd_far (may_f1 hz hin k) |> fun q => ⟨q.1, q.2.1.trans lineL_len, q.2.2⟩)) ?_
  rintro _ M5 ⟨rfl, C5, O5⟩
  have K05 : Keep M0 M5 := Keep.step K04 C5 fun j hj => by rw [hj]; exact hc
  have u5 := at_chg (at_keep u2 K4') C5 hne
  have hjc5 : jc < M5.nb.size := Nat.lt_of_lt_of_le hjc4 C5.size
  refine ⟨_, rfl, fun hh => absurd rfl hh, fun _ => ⟨_, int_of u5 rfl, _, sl_of u5 rfl, _, int_of u5 rfl, _, sl_of u5 rfl, ?_⟩⟩
  refine Cn.mono (c46 (M := { M5 with floor := M5.nb.size }) (Nat.le_refl _) hjc5) ?_
  rintro gv2 N6 ⟨_, K6, hF6⟩
  have K6' : Keep M5 { N6 with floor := M5.floor } := K6.unfl
  have hF6' : FnOk jc { N6 with floor := M5.floor } gv2 (scS n typ) := hF6
  dsimp only
  generalize { N6 with floor := M5.floor } = M6 at K6' hF6'
  have K06 := K05.trans K6'
  have hjc6 : jc < M6.nb.size := Nat.lt_of_lt_of_le hjc5 K6'.size
  refine Cn.mono (c31 (count := s) (ys := fwY2 n typ x) (fb hf K06) (hfj K06.floor) hjc6 hn64 hms2.1 (lineRow hn64) hF6' trFwd (O5.chg K6' fun _ _ _ h => h) (fun k hk => fwd_far (may_f2 hz hin k) |> fun q => ⟨q.1, q.2.1.trans lineL_len, q.2.2⟩)) ?_
  rintro _ M7 ⟨rfl, C7, O7⟩
  have K07 : Keep M0 M7 := Keep.step K06 C7 fun j hj => by rw [hj]; exact hc
  have u7 := at_chg (at_keep u5 K6') C7 hne
  have hjc7 : jc < M7.nb.size := Nat.lt_of_lt_of_le hjc6 C7.size
  refine ⟨_, rfl, fun hh => absurd rfl hh, fun _ => ?_⟩
  have := c16_out (M0 := M0) (jc := jc) (jb := M2.nb.size) (A := A) (cap := cap) (G := fwH2 n s typ x) hf hc hms2.1 hn64 hcap s 0 none 0 (M := M7) (Nat.zero_add _) K07 u7 hne (O7.mono fun j _ h => .inl h) Own.empty hjc7 (lt_of_at u7)
  rw [Nat.zero_mul] at this
  exact this
end
end Go.Zt

