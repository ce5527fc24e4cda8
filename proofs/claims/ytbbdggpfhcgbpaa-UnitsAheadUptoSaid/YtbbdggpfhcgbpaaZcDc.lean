/- The functions' walks: for each function and each loop a rule of what it comes to. Printed by zw.py. -/
import Derived.Test.YtbbdggpfhcgbpaaProg
import Derived.Test.YtbbdggpfhcgbpaaZcA
set_option linter.unusedVariables false
set_option maxRecDepth 100000
namespace Go.Zt
open Go Go.Sim Go.Proofs

variable {g0 g1 g2 g3 g4 g5 g6 g7 g8 g9 g10 g11 g12 g13 g14 g15 g16 g17 g18 g19 g20 g21 g22 g23 g24 g25 g26 g27 g28 g29 g30 g31 g32 g33 g34 g35 g36 g37 g38 g39 g40 g41 g42 g43 g44 g45 g46 g47 g48 : Value}
/-! ### zoetrope/zoetropelaw19.UnitsSplits: function 3 -/
noncomputable abbrev P3 (p : List Nat) : Code := subC (codeOf Try.f3) p
noncomputable abbrev O3 (p : List Nat) : Array Oper := opsOf (subC (codeOf Try.f3) p)
theorem b3 : Try.prog.funcs[3]? = some Try.f3 ∧ (Orc.tab Try.prog).lookup 3 = none := ⟨by kernel_rfl, by kernel_rfl⟩
theorem d3 : Try.f3.body = some (P3 []) := by kernel_rfl
theorem t3 {Ax0 : Option Addr} {lx0 cx0 : Nat} : #[.slice Ax0 lx0 cx0] ++ Array.replicate (Try.f3.ntmps - (#[.slice Ax0 lx0 cx0] : Array Value).size) undef = #[.slice Ax0 lx0 cx0,undef,undef,undef,undef,undef,undef,undef,undef,undef,undef,undef,undef,undef,undef,undef,undef,undef,undef,undef,undef,undef,undef,undef,undef,undef,undef,undef,undef,undef,undef,undef,undef,undef,undef,undef,undef,undef,undef,undef,undef,undef,undef,undef,undef,undef,undef,undef,undef] := by kernel_rfl
theorem k3_0 : P3 [] = .seq (P3 [0]) (P3 [1]) := by kernel_rfl
theorem k3_1 : P3 [0] = .region 0 (O3 [0]) false := by kernel_rfl
theorem r3_0 {M : Mem} {call : CallM} {K : Array Value → Mem → R} :
    opsK Try.prog (fun _ => call) (O3 [0]) (O3 [0]).toList 0 #[g0,g1,g2,g3,g4,g5,g6,g7,g8,g9,g10,g11,g12,g13,g14,g15,g16,g17,g18,g19,g20,g21,g22,g23,g24,g25,g26,g27,g28,g29,g30,g31,g32,g33,g34,g35,g36,g37,g38,g39,g40,g41,g42,g43,g44,g45,g46,g47,g48] M K = K #[g0,g1,.bool false,g3,g4,g5,g6,g7,g8,g9,g10,g11,g12,g13,g14,g15,g16,g17,g18,g19,g20,g21,g22,g23,g24,g25,g26,g27,g28,g29,g30,g31,g32,g33,g34,g35,g36,g37,g38,g39,g40,g41,g42,g43,g44,g45,g46,g47,g48] M := by kernel_rfl
theorem k3_2 : P3 [1] = .seq (P3 [1,0]) (P3 [1,1]) := by kernel_rfl
theorem k3_3 : P3 [1,0] = .region 1 (O3 [1,0]) false := by kernel_rfl
theorem r3_1 {Ax0 : Option Addr} {lx0 cx0 : Nat} {M : Mem} {call : CallM} {K : Array Value → Mem → R} :
    opsK Try.prog (fun _ => call) (O3 [1,0]) (O3 [1,0]).toList 0 #[.slice Ax0 lx0 cx0,g1,g2,g3,g4,g5,g6,g7,g8,g9,g10,g11,g12,g13,g14,g15,g16,g17,g18,g19,g20,g21,g22,g23,g24,g25,g26,g27,g28,g29,g30,g31,g32,g33,g34,g35,g36,g37,g38,g39,g40,g41,g42,g43,g44,g45,g46,g47,g48] M K = (call 10 #[.slice Ax0 lx0 cx0] M).bind fun r_1 => (asS r_1.1).bind fun s_2 => K #[.slice Ax0 lx0 cx0,g1,g2,.slice s_2.1 (s_2.2.1) (s_2.2.2),g4,g5,g6,g7,g8,g9,g10,.slice Ax0 lx0 cx0,.slice s_2.1 (s_2.2.1) (s_2.2.2),g13,g14,g15,g16,g17,g18,g19,g20,g21,g22,g23,g24,g25,g26,g27,g28,g29,g30,g31,g32,g33,g34,g35,g36,g37,g38,g39,g40,g41,g42,g43,g44,g45,g46,g47,g48] r_1.2 := by kernel_rfl
theorem k3_4 : P3 [1,1] = .seq (P3 [1,1,0]) (P3 [1,1,1]) := by kernel_rfl
theorem k3_5 : P3 [1,1,0] = .region 2 (O3 [1,1,0]) false := by kernel_rfl
theorem r3_2 {Ax3 : Option Addr} {lx3 cx3 : Nat} {M : Mem} {call : CallM} {K : Array Value → Mem → R} :
    opsK Try.prog (fun _ => call) (O3 [1,1,0]) (O3 [1,1,0]).toList 0 #[g0,g1,g2,.slice Ax3 lx3 cx3,g4,g5,g6,g7,g8,g9,g10,g11,g12,g13,g14,g15,g16,g17,g18,g19,g20,g21,g22,g23,g24,g25,g26,g27,g28,g29,g30,g31,g32,g33,g34,g35,g36,g37,g38,g39,g40,g41,g42,g43,g44,g45,g46,g47,g48] M K = (call 11 #[.slice Ax3 lx3 cx3] M).bind fun r_1 => (asU 3 r_1.1).bind fun cs_2 => (asS (cs_2.getD 0 undef)).bind fun s_3 => (asI .i64 (cs_2.getD 1 undef)).bind fun x_4 => (asI .i64 (cs_2.getD 2 undef)).bind fun x_5 => K #[g0,g1,g2,.slice Ax3 lx3 cx3,.slice s_3.1 (s_3.2.1) (s_3.2.2),.int .i64 x_4,.int .i64 x_5,g7,g8,g9,g10,g11,g12,.tuple #[.slice s_3.1 (s_3.2.1) (s_3.2.2), .int .i64 x_4, .int .i64 x_5],.slice Ax3 lx3 cx3,.tuple #[.slice s_3.1 (s_3.2.1) (s_3.2.2), .int .i64 x_4, .int .i64 x_5],.slice s_3.1 (s_3.2.1) (s_3.2.2),.int .i64 x_4,.int .i64 x_5,g19,g20,g21,g22,g23,g24,g25,g26,g27,g28,g29,g30,g31,g32,g33,g34,g35,g36,g37,g38,g39,g40,g41,g42,g43,g44,g45,g46,g47,g48] r_1.2 := by kernel_rfl
theorem k3_6 : P3 [1,1,1] = .seq (P3 [1,1,1,0]) (P3 [1,1,1,1]) := by kernel_rfl
theorem k3_7 : P3 [1,1,1,0] = .region 3 (O3 [1,1,1,0]) false := by kernel_rfl
theorem r3_3 {Ax0 : Option Addr} {lx0 cx0 : Nat} {M : Mem} {call : CallM} {K : Array Value → Mem → R} :
    opsK Try.prog (fun _ => call) (O3 [1,1,1,0]) (O3 [1,1,1,0]).toList 0 #[.slice Ax0 lx0 cx0,g1,g2,g3,g4,g5,g6,g7,g8,g9,g10,g11,g12,g13,g14,g15,g16,g17,g18,g19,g20,g21,g22,g23,g24,g25,g26,g27,g28,g29,g30,g31,g32,g33,g34,g35,g36,g37,g38,g39,g40,g41,g42,g43,g44,g45,g46,g47,g48] M K = (call 12 #[.slice Ax0 lx0 cx0] M).bind fun r_1 => (asU 3 r_1.1).bind fun cs_2 => (asS (cs_2.getD 0 undef)).bind fun s_3 => (asI .i64 (cs_2.getD 1 undef)).bind fun x_4 => (asI .i64 (cs_2.getD 2 undef)).bind fun x_5 => K #[.slice Ax0 lx0 cx0,g1,g2,g3,g4,g5,g6,.slice s_3.1 (s_3.2.1) (s_3.2.2),.int .i64 x_4,.int .i64 x_5,g10,g11,g12,g13,g14,g15,g16,g17,g18,.tuple #[.slice s_3.1 (s_3.2.1) (s_3.2.2), .int .i64 x_4, .int .i64 x_5],.slice Ax0 lx0 cx0,.tuple #[.slice s_3.1 (s_3.2.1) (s_3.2.2), .int .i64 x_4, .int .i64 x_5],.slice s_3.1 (s_3.2.1) (s_3.2.2),.int .i64 x_4,.int .i64 x_5,g25,g26,g27,g28,g29,g30,g31,g32,g33,g34,g35,g36,g37,g38,g39,g40,g41,g42,g43,g44,g45,g46,g47,g48] r_1.2 := by kernel_rfl
theorem k3_8 : P3 [1,1,1,1] = .seq (P3 [1,1,1,1,0]) (P3 [1,1,1,1,1]) := by kernel_rfl
theorem k3_9 : P3 [1,1,1,1,0] = .region 4 (O3 [1,1,1,1,0]) false := by kernel_rfl
theorem r3_4 {Ax4 : Option Addr} {lx4 cx4 : Nat} {x5 x6 : Int} {Ax7 : Option Addr} {lx7 cx7 : Nat} {x8 x9 : Int} {M : Mem} {call : CallM} {K : Array Value → Mem → R} :
    opsK Try.prog (fun _ => call) (O3 [1,1,1,1,0]) (O3 [1,1,1,1,0]).toList 0 #[g0,g1,g2,g3,.slice Ax4 lx4 cx4,.int .i64 x5,.int .i64 x6,.slice Ax7 lx7 cx7,.int .i64 x8,.int .i64 x9,g10,g11,g12,g13,g14,g15,g16,g17,g18,g19,g20,g21,g22,g23,g24,g25,g26,g27,g28,g29,g30,g31,g32,g33,g34,g35,g36,g37,g38,g39,g40,g41,g42,g43,g44,g45,g46,g47,g48] M K = withK (fun w10 w27 w28 w29 w30 w31 w32 w33 w34 w35 w36 w37 M => K #[g0,g1,g2,g3,.slice Ax4 lx4 cx4,.int .i64 x5,.int .i64 x6,.slice Ax7 lx7 cx7,.int .i64 x8,.int .i64 x9,w10,g11,g12,g13,g14,g15,g16,g17,g18,g19,g20,g21,g22,g23,g24,.slice Ax4 lx4 cx4,.slice Ax7 lx7 cx7,w27,w28,w29,w30,w31,w32,w33,w34,w35,w36,w37,g38,g39,g40,g41,g42,g43,g44,g45,g46,g47,g48] M) fun k => (call 13 #[.slice Ax4 lx4 cx4, .slice Ax7 lx7 cx7] M).bind fun r_1 => (asB r_1.1).bind fun b_2 => cond b_2 (cond (x5 == x8) (k (.bool (x6 == x9)) (.bool b_2) (.bool true) (.int .i64 x5) (.int .i64 x8) (.bool (x5 == x8)) (.bool (x5 == x8)) (.bool true) (.int .i64 x6) (.int .i64 x9) (.bool (x6 == x9)) (.bool (x6 == x9)) r_1.2) (k (.bool false) (.bool b_2) (.bool true) (.int .i64 x5) (.int .i64 x8) (.bool (x5 == x8)) (.bool (x5 == x8)) (.bool false) undef undef undef (.bool false) r_1.2)) (k (.bool false) (.bool b_2) (.bool false) undef undef undef (.bool false) (.bool false) undef undef undef (.bool false) r_1.2) := by kernel_rfl
theorem k3_10 : P3 [1,1,1,1,1] = .seq (P3 [1,1,1,1,1,0]) (P3 [1,1,1,1,1,1]) := by kernel_rfl
theorem k3_11 : P3 [1,1,1,1,1,0] = .region 5 (O3 [1,1,1,1,1,0]) false := by kernel_rfl
theorem r3_5 {Ax4 : Option Addr} {lx4 cx4 : Nat} {M : Mem} {call : CallM} {K : Array Value → Mem → R} :
    opsK Try.prog (fun _ => call) (O3 [1,1,1,1,1,0]) (O3 [1,1,1,1,1,0]).toList 0 #[g0,g1,g2,g3,.slice Ax4 lx4 cx4,g5,g6,g7,g8,g9,g10,g11,g12,g13,g14,g15,g16,g17,g18,g19,g20,g21,g22,g23,g24,g25,g26,g27,g28,g29,g30,g31,g32,g33,g34,g35,g36,g37,g38,g39,g40,g41,g42,g43,g44,g45,g46,g47,g48] M K = (call 14 #[.slice Ax4 lx4 cx4] M).bind fun r_1 => K #[g0,g1,g2,g3,.slice Ax4 lx4 cx4,g5,g6,g7,g8,g9,g10,g11,g12,g13,g14,g15,g16,g17,g18,g19,g20,g21,g22,g23,g24,g25,g26,g27,g28,g29,g30,g31,g32,g33,g34,g35,g36,g37,.slice Ax4 lx4 cx4,r_1.1,g40,g41,g42,g43,g44,g45,g46,g47,g48] r_1.2 := by kernel_rfl
theorem k3_12 : P3 [1,1,1,1,1,1] = .seq (P3 [1,1,1,1,1,1,0]) (P3 [1,1,1,1,1,1,1]) := by kernel_rfl
theorem k3_13 : P3 [1,1,1,1,1,1,0] = .region 6 (O3 [1,1,1,1,1,1,0]) false := by kernel_rfl
theorem r3_6 {Ax0 : Option Addr} {lx0 cx0 : Nat} {Ax3 : Option Addr} {lx3 cx3 : Nat} {x10 : Bool} {M : Mem} {call : CallM} {K : Array Value → Mem → R} :
    opsK Try.prog (fun _ => call) (O3 [1,1,1,1,1,1,0]) (O3 [1,1,1,1,1,1,0]).toList 0 #[.slice Ax0 lx0 cx0,g1,g2,.slice Ax3 lx3 cx3,g4,g5,g6,g7,g8,g9,.bool x10,g11,g12,g13,g14,g15,g16,g17,g18,g19,g20,g21,g22,g23,g24,g25,g26,g27,g28,g29,g30,g31,g32,g33,g34,g35,g36,g37,g38,g39,g40,g41,g42,g43,g44,g45,g46,g47,g48] M K = withK (fun w2 w41 w42 w43 w44 w45 w46 w47 w48 M => K #[.slice Ax0 lx0 cx0,g1,w2,.slice Ax3 lx3 cx3,g4,g5,g6,g7,g8,g9,.bool x10,g11,g12,g13,g14,g15,g16,g17,g18,g19,g20,g21,g22,g23,g24,g25,g26,g27,g28,g29,g30,g31,g32,g33,g34,g35,g36,g37,g38,g39,.bool x10,w41,w42,w43,w44,w45,w46,w47,w48] M) fun k => cond x10 ((call 15 #[.slice Ax3 lx3 cx3, .slice Ax0 lx0 cx0] M).bind fun r_1 => (asB r_1.1).bind fun b_2 => cond b_2 ((call 16 #[] r_1.2).bind fun r_3 => (asB r_3.1).bind fun b_4 => k (.bool b_4) (.bool true) (.slice Ax3 lx3 cx3) (.slice Ax0 lx0 cx0) (.bool b_2) (.bool b_2) (.bool true) (.bool b_4) (.bool b_4) r_3.2) (k (.bool false) (.bool true) (.slice Ax3 lx3 cx3) (.slice Ax0 lx0 cx0) (.bool b_2) (.bool b_2) (.bool false) undef (.bool false) r_1.2)) (k (.bool false) (.bool false) undef undef undef (.bool false) (.bool false) undef (.bool false) M) := by kernel_rfl
theorem k3_14 : P3 [1,1,1,1,1,1,1] = .ret := by kernel_rfl
theorem e3 {M : Mem} : finish Try.prog Try.f3 #[g0,g1,g2,g3,g4,g5,g6,g7,g8,g9,g10,g11,g12,g13,g14,g15,g16,g17,g18,g19,g20,g21,g22,g23,g24,g25,g26,g27,g28,g29,g30,g31,g32,g33,g34,g35,g36,g37,g38,g39,g40,g41,g42,g43,g44,g45,g46,g47,g48] M = some (g2, M) := by kernel_rfl
noncomputable def S3_1 : List Item := [.code (P3 [1,1,1,1,1])]
def A3_1 (Ax0 : Option Addr) (lx0 cx0 : Nat) (Ax3 : Option Addr) (lx3 cx3 : Nat) (Ax4 : Option Addr) (lx4 cx4 : Nat) (x10 : Bool) (M : Mem) (Q : Value → Mem → Prop) : Prop := ∀ (g1 g2 g5 g6 g7 g8 g9 g11 g12 g13 g14 g15 g16 g17 g18 g19 g20 g21 g22 g23 g24 g25 g26 g27 g28 g29 g30 g31 g32 g33 g34 g35 g36 g37 g38 g39 g40 g41 g42 g43 g44 g45 g46 g47 g48 : Value), Rn Try.prog Try.f3 S3_1 #[.slice Ax0 lx0 cx0, g1, g2, .slice Ax3 lx3 cx3, .slice Ax4 lx4 cx4, g5, g6, g7, g8, g9, .bool x10, g11, g12, g13, g14, g15, g16, g17, g18, g19, g20, g21, g22, g23, g24, g25, g26, g27, g28, g29, g30, g31, g32, g33, g34, g35, g36, g37, g38, g39, g40, g41, g42, g43, g44, g45, g46, g47, g48] M Q
theorem w3_0 {Ax0 : Option Addr} {lx0 cx0 : Nat} {M : Mem} {Q : Value → Mem → Prop} (H :
    Cn Try.prog 10 #[.slice Ax0 lx0 cx0] M fun v1' N1' =>
     ∃ s2', asS v1' = some s2' ∧
     Cn Try.prog 11 #[.slice s2'.1 s2'.2.1 s2'.2.2] N1' fun v3' N3' =>
      ∃ cs4', asU 3 v3' = some cs4' ∧
      ∃ s5', asS (cs4'.getD 0 undef) = some s5' ∧
      ∃ x6', asI .i64 (cs4'.getD 1 undef) = some x6' ∧
      ∃ x7', asI .i64 (cs4'.getD 2 undef) = some x7' ∧
      Cn Try.prog 12 #[.slice Ax0 lx0 cx0] N3' fun v8' N8' =>
       ∃ cs9', asU 3 v8' = some cs9' ∧
       ∃ s10', asS (cs9'.getD 0 undef) = some s10' ∧
       ∃ x11', asI .i64 (cs9'.getD 1 undef) = some x11' ∧
       ∃ x12', asI .i64 (cs9'.getD 2 undef) = some x12' ∧
       Cn Try.prog 13 #[.slice s5'.1 s5'.2.1 s5'.2.2, .slice s10'.1 s10'.2.1 s10'.2.2] N8' fun v13' N13' =>
        ∃ b14', asB v13' = some b14' ∧
        ((b14' = true →
         ((x6' = x11' →
          A3_1 Ax0 lx0 cx0 s2'.1 s2'.2.1 s2'.2.2 s5'.1 s5'.2.1 s5'.2.2 (x7' == x12') N13' Q) ∧
          (x6' ≠ x11' →
          A3_1 Ax0 lx0 cx0 s2'.1 s2'.2.1 s2'.2.2 s5'.1 s5'.2.1 s5'.2.2 false N13' Q))) ∧
         (b14' = false →
         A3_1 Ax0 lx0 cx0 s2'.1 s2'.2.1 s2'.2.2 s5'.1 s5'.2.1 s5'.2.2 false N13' Q))) :
    Cn Try.prog 3 #[.slice Ax0 lx0 cx0] M Q := by
  refine Cn.of b3 d3 t3 ?_
  refine Rn.seq k3_0 (Rn.region k3_1 (fun call K => r3_0) (Rch.leaf (Rn.seq k3_2 (Rn.region k3_3 (fun call K => r3_1) (Rch.call H fun v1' N1' H => Rch.ex H fun s2' H => Rch.leaf (Rn.seq k3_4 (Rn.region k3_5 (fun call K => r3_2) (Rch.call H fun v3' N3' H => Rch.ex H fun cs4' H => ?_))))))))
  refine Rch.ex H fun s5' H => Rch.ex H fun x6' H => Rch.ex H fun x7' H => Rch.leaf (Rn.seq k3_6 (Rn.region k3_7 (fun call K => r3_3) (Rch.call H fun v8' N8' H => Rch.ex H fun cs9' H => Rch.ex H fun s10' H => Rch.ex H fun x11' H => Rch.ex H fun x12' H => Rch.leaf ?_)))
  refine Rn.seq k3_8 (Rn.region k3_9 (fun call K => r3_4) (Rch.call H fun v13' N13' H => Rch.ex H fun b14' H => ?_))
  refine Rch.cB (fun h => ?_) (fun h => ?_)
  · replace H := H.1 (h)
    refine Rch.cB (fun h => ?_) (fun h => ?_)
    · replace H := H.1 (eq_of_beq h)
      refine Rch.leaf ?_
      exact H _ _ _ _ _ _ _ _ _ _ _ _ _ _ _ _ _ _ _ _ _ _ _ _ _ _ _ _ _ _ _ _ _ _ _ _ _ _ _ _ _ _ _ _ _
    · replace H := H.2 (ne_of_beq_false h)
      refine Rch.leaf ?_
      exact H _ _ _ _ _ _ _ _ _ _ _ _ _ _ _ _ _ _ _ _ _ _ _ _ _ _ _ _ _ _ _ _ _ _ _ _ _ _ _ _ _ _ _ _ _
  · replace H := H.2 (h)
    refine Rch.leaf ?_
    exact H _ _ _ _ _ _ _ _ _ _ _ _ _ _ _ _ _ _ _ _ _ _ _ _ _ _ _ _ _ _ _ _ _ _ _ _ _ _ _ _ _ _ _ _ _

theorem w3_1 {Ax0 : Option Addr} {lx0 cx0 : Nat} {Ax3 : Option Addr} {lx3 cx3 : Nat} {Ax4 : Option Addr} {lx4 cx4 : Nat} {x10 : Bool} {M : Mem} {Q : Value → Mem → Prop} (H :
    Cn Try.prog 14 #[.slice Ax4 lx4 cx4] M fun v15' N15' =>
     ((x10 = true →
      Cn Try.prog 15 #[.slice Ax3 lx3 cx3, .slice Ax0 lx0 cx0] N15' fun v16' N16' =>
       ∃ b17', asB v16' = some b17' ∧
       ((b17' = true →
        Cn Try.prog 16 #[] N16' fun v18' N18' =>
         ∃ b19', asB v18' = some b19' ∧
         Q (.bool b19') N18') ∧
        (b17' = false →
        Q (.bool false) N16'))) ∧
      (x10 = false →
      Q (.bool false) N15'))) :
    A3_1 Ax0 lx0 cx0 Ax3 lx3 cx3 Ax4 lx4 cx4 x10 M Q := by
  intro g1 g2 g5 g6 g7 g8 g9 g11 g12 g13 g14 g15 g16 g17 g18 g19 g20 g21 g22 g23 g24 g25 g26 g27 g28 g29 g30 g31 g32 g33 g34 g35 g36 g37 g38 g39 g40 g41 g42 g43 g44 g45 g46 g47 g48
  refine Rn.seq k3_10 (Rn.region k3_11 (fun call K => r3_5) (Rch.call H fun v15' N15' H => Rch.leaf (Rn.seq k3_12 (Rn.region k3_13 (fun call K => r3_6) ?_))))
  refine Rch.cB (fun h => ?_) (fun h => ?_)
  · replace H := H.1 (h)
    refine Rch.call H fun v16' N16' H => Rch.ex H fun b17' H => ?_
    refine Rch.cB (fun h => ?_) (fun h => ?_)
    · replace H := H.1 (h)
      refine Rch.call H fun v18' N18' H => Rch.ex H fun b19' H => Rch.leaf ?_
      exact Rn.ret k3_14 e3 H
    · replace H := H.2 (h)
      refine Rch.leaf ?_
      exact Rn.ret k3_14 e3 H
  · replace H := H.2 (h)
    refine Rch.leaf ?_
    exact Rn.ret k3_14 e3 H


end Go.Zt
