/- The functions' walks: for each function and each loop a rule of what it comes to. Printed by zw.py. -/
import Derived.Test.YtpfhalehdgcbeaaProg
import Derived.Test.YtpfhalehdgcbeaaZgA
set_option linter.unusedVariables false
set_option maxRecDepth 100000
namespace Go.Zt
open Go Go.Sim Go.Proofs

variable {g0 g1 g2 g3 g4 g5 g6 g7 g8 g9 g10 g11 g12 g13 g14 g15 g16 g17 g18 g19 g20 g21 g22 g23 g24 g25 g26 g27 g28 g29 g30 g31 g32 g33 g34 g35 g36 g37 g38 g39 g40 g41 g42 g43 g44 g45 g46 g47 g48 g49 g50 g51 g52 g53 g54 g55 g56 g57 g58 g59 g60 g61 g62 g63 : Value}
/-! ### zoetrope/zoetropelaw08.TxfmLossless: function 5 -/
noncomputable abbrev P5 (p : List Nat) : Code := subC (codeOf Try.f5) p
noncomputable abbrev O5 (p : List Nat) : Array Oper := opsOf (subC (codeOf Try.f5) p)
theorem b5 : Try.prog.funcs[5]? = some Try.f5 ∧ (Orc.tab Try.prog).lookup 5 = none := ⟨by kernel_rfl, by kernel_rfl⟩
theorem d5 : Try.f5.body = some (P5 []) := by kernel_rfl
theorem t5 {Ax0 : Option Addr} {lx0 cx0 : Nat} : #[.slice Ax0 lx0 cx0] ++ Array.replicate (Try.f5.ntmps - (#[.slice Ax0 lx0 cx0] : Array Value).size) undef = #[.slice Ax0 lx0 cx0,undef,undef,undef,undef,undef,undef,undef,undef,undef,undef,undef,undef,undef,undef,undef,undef,undef,undef,undef,undef,undef,undef,undef,undef,undef,undef,undef,undef,undef,undef,undef,undef] := by kernel_rfl
theorem k5_0 : P5 [] = .seq (P5 [0]) (P5 [1]) := by kernel_rfl
theorem k5_1 : P5 [0] = .region 0 (O5 [0]) false := by kernel_rfl
theorem r5_0 {M : Mem} {call : CallM} {K : Array Value → Mem → R} :
    opsK Try.prog (fun _ => call) (O5 [0]) (O5 [0]).toList 0 #[g0,g1,g2,g3,g4,g5,g6,g7,g8,g9,g10,g11,g12,g13,g14,g15,g16,g17,g18,g19,g20,g21,g22,g23,g24,g25,g26,g27,g28,g29,g30,g31,g32] M K = K #[g0,g1,.bool false,g3,g4,g5,g6,g7,g8,g9,g10,g11,g12,g13,g14,g15,g16,g17,g18,g19,g20,g21,g22,g23,g24,g25,g26,g27,g28,g29,g30,g31,g32] M := by kernel_rfl
theorem k5_2 : P5 [1] = .seq (P5 [1,0]) (P5 [1,1]) := by kernel_rfl
theorem k5_3 : P5 [1,0] = .seq (P5 [1,0,0]) (P5 [1,0,1]) := by kernel_rfl
theorem k5_4 : P5 [1,0,0] = .region 1 (O5 [1,0,0]) false := by kernel_rfl
theorem r5_1 {M : Mem} {call : CallM} {K : Array Value → Mem → R} :
    opsK Try.prog (fun _ => call) (O5 [1,0,0]) (O5 [1,0,0]).toList 0 #[g0,g1,g2,g3,g4,g5,g6,g7,g8,g9,g10,g11,g12,g13,g14,g15,g16,g17,g18,g19,g20,g21,g22,g23,g24,g25,g26,g27,g28,g29,g30,g31,g32] M K = (call 15 #[] M).bind fun r_1 => (asB r_1.1).bind fun b_2 => K #[g0,g1,g2,g3,g4,g5,g6,g7,.bool b_2,.bool (!b_2),g10,g11,g12,g13,g14,g15,g16,g17,g18,g19,g20,g21,g22,g23,g24,g25,g26,g27,g28,g29,g30,g31,g32] r_1.2 := by kernel_rfl
theorem c5_5 : P5 [1,0,1] = .cond (.tmp 9) (P5 [1,0,1,0]) (P5 [1,0,1,1]) := by kernel_rfl
theorem k5_6 : P5 [1,0,1,0] = .seq (P5 [1,0,1,0,0]) (P5 [1,0,1,0,1]) := by kernel_rfl
theorem k5_7 : P5 [1,0,1,0,0] = .region 2 (O5 [1,0,1,0,0]) false := by kernel_rfl
theorem r5_2 {M : Mem} {call : CallM} {K : Array Value → Mem → R} :
    opsK Try.prog (fun _ => call) (O5 [1,0,1,0,0]) (O5 [1,0,1,0,0]).toList 0 #[g0,g1,g2,g3,g4,g5,g6,g7,g8,g9,g10,g11,g12,g13,g14,g15,g16,g17,g18,g19,g20,g21,g22,g23,g24,g25,g26,g27,g28,g29,g30,g31,g32] M K = K #[g0,g1,.bool false,g3,g4,g5,g6,g7,g8,g9,g10,g11,g12,g13,g14,g15,g16,g17,g18,g19,g20,g21,g22,g23,g24,g25,g26,g27,g28,g29,g30,g31,g32] M := by kernel_rfl
theorem k5_8 : P5 [1,0,1,0,1] = .ret := by kernel_rfl
theorem e5 {M : Mem} : finish Try.prog Try.f5 #[g0,g1,g2,g3,g4,g5,g6,g7,g8,g9,g10,g11,g12,g13,g14,g15,g16,g17,g18,g19,g20,g21,g22,g23,g24,g25,g26,g27,g28,g29,g30,g31,g32] M = some (g2, M) := by kernel_rfl
theorem k5_10 : P5 [1,0,1,1] = .skip := by kernel_rfl
theorem k5_11 : P5 [1,1] = .seq (P5 [1,1,0]) (P5 [1,1,1]) := by kernel_rfl
theorem k5_12 : P5 [1,1,0] = .region 3 (O5 [1,1,0]) false := by kernel_rfl
theorem r5_3 {Ax0 : Option Addr} {lx0 cx0 : Nat} {M : Mem} {call : CallM} {K : Array Value → Mem → R} :
    opsK Try.prog (fun _ => call) (O5 [1,1,0]) (O5 [1,1,0]).toList 0 #[.slice Ax0 lx0 cx0,g1,g2,g3,g4,g5,g6,g7,g8,g9,g10,g11,g12,g13,g14,g15,g16,g17,g18,g19,g20,g21,g22,g23,g24,g25,g26,g27,g28,g29,g30,g31,g32] M K = (call 18 #[.slice Ax0 lx0 cx0, .int .i64 4, .int .i64 255] M).bind fun r_1 => (asS r_1.1).bind fun s_2 => K #[.slice Ax0 lx0 cx0,g1,g2,.slice s_2.1 (s_2.2.1) (s_2.2.2),g4,g5,g6,g7,g8,g9,.slice Ax0 lx0 cx0,.slice s_2.1 (s_2.2.1) (s_2.2.2),g12,g13,g14,g15,g16,g17,g18,g19,g20,g21,g22,g23,g24,g25,g26,g27,g28,g29,g30,g31,g32] r_1.2 := by kernel_rfl
theorem k5_13 : P5 [1,1,1] = .seq (P5 [1,1,1,0]) (P5 [1,1,1,1]) := by kernel_rfl
theorem k5_14 : P5 [1,1,1,0] = .region 4 (O5 [1,1,1,0]) false := by kernel_rfl
theorem r5_4 {Ax3 : Option Addr} {lx3 cx3 : Nat} {M : Mem} {call : CallM} {K : Array Value → Mem → R} :
    opsK Try.prog (fun _ => call) (O5 [1,1,1,0]) (O5 [1,1,1,0]).toList 0 #[g0,g1,g2,.slice Ax3 lx3 cx3,g4,g5,g6,g7,g8,g9,g10,g11,g12,g13,g14,g15,g16,g17,g18,g19,g20,g21,g22,g23,g24,g25,g26,g27,g28,g29,g30,g31,g32] M K = (call 16 #[.int .i64 4, .int .i64 9, .slice Ax3 lx3 cx3] M).bind fun r_1 => (asU 2 r_1.1).bind fun cs_2 => (asS (cs_2.getD 0 undef)).bind fun s_3 => (asI .i64 (cs_2.getD 1 undef)).bind fun x_4 => K #[g0,g1,g2,.slice Ax3 lx3 cx3,.slice s_3.1 (s_3.2.1) (s_3.2.2),.int .i64 x_4,g6,g7,g8,g9,g10,g11,.tuple #[.slice s_3.1 (s_3.2.1) (s_3.2.2), .int .i64 x_4],.slice Ax3 lx3 cx3,.tuple #[.slice s_3.1 (s_3.2.1) (s_3.2.2), .int .i64 x_4],.slice s_3.1 (s_3.2.1) (s_3.2.2),.int .i64 x_4,g17,g18,g19,g20,g21,g22,g23,g24,g25,g26,g27,g28,g29,g30,g31,g32] r_1.2 := by kernel_rfl
theorem k5_15 : P5 [1,1,1,1] = .seq (P5 [1,1,1,1,0]) (P5 [1,1,1,1,1]) := by kernel_rfl
theorem k5_16 : P5 [1,1,1,1,0] = .region 5 (O5 [1,1,1,1,0]) false := by kernel_rfl
theorem r5_5 {Ax4 : Option Addr} {lx4 cx4 : Nat} {M : Mem} {call : CallM} {K : Array Value → Mem → R} :
    opsK Try.prog (fun _ => call) (O5 [1,1,1,1,0]) (O5 [1,1,1,1,0]).toList 0 #[g0,g1,g2,g3,.slice Ax4 lx4 cx4,g5,g6,g7,g8,g9,g10,g11,g12,g13,g14,g15,g16,g17,g18,g19,g20,g21,g22,g23,g24,g25,g26,g27,g28,g29,g30,g31,g32] M K = (call 12 #[.int .i64 4, .int .i64 9, .slice Ax4 lx4 cx4] M).bind fun r_1 => (asU 2 r_1.1).bind fun cs_2 => (asS (cs_2.getD 0 undef)).bind fun s_3 => (asI .i64 (cs_2.getD 1 undef)).bind fun x_4 => K #[g0,g1,g2,g3,.slice Ax4 lx4 cx4,g5,.slice s_3.1 (s_3.2.1) (s_3.2.2),.int .i64 x_4,g8,g9,g10,g11,g12,g13,g14,g15,g16,.tuple #[.slice s_3.1 (s_3.2.1) (s_3.2.2), .int .i64 x_4],.slice Ax4 lx4 cx4,.tuple #[.slice s_3.1 (s_3.2.1) (s_3.2.2), .int .i64 x_4],.slice s_3.1 (s_3.2.1) (s_3.2.2),.int .i64 x_4,g22,g23,g24,g25,g26,g27,g28,g29,g30,g31,g32] r_1.2 := by kernel_rfl
theorem k5_17 : P5 [1,1,1,1,1] = .seq (P5 [1,1,1,1,1,0]) (P5 [1,1,1,1,1,1]) := by kernel_rfl
theorem k5_18 : P5 [1,1,1,1,1,0] = .region 6 (O5 [1,1,1,1,1,0]) false := by kernel_rfl
theorem r5_6 {Ax3 : Option Addr} {lx3 cx3 : Nat} {x5 : Int} {Ax6 : Option Addr} {lx6 cx6 : Nat} {x7 : Int} {M : Mem} {call : CallM} {K : Array Value → Mem → R} :
    opsK Try.prog (fun _ => call) (O5 [1,1,1,1,1,0]) (O5 [1,1,1,1,1,0]).toList 0 #[g0,g1,g2,.slice Ax3 lx3 cx3,g4,.int .i64 x5,.slice Ax6 lx6 cx6,.int .i64 x7,g8,g9,g10,g11,g12,g13,g14,g15,g16,g17,g18,g19,g20,g21,g22,g23,g24,g25,g26,g27,g28,g29,g30,g31,g32] M K = withK (fun w2 w24 w25 w26 w27 w28 w29 w30 w31 w32 M => K #[g0,g1,w2,.slice Ax3 lx3 cx3,g4,.int .i64 x5,.slice Ax6 lx6 cx6,.int .i64 x7,g8,g9,g10,g11,g12,g13,g14,g15,g16,g17,g18,g19,g20,g21,.int .i64 x5,.bool (x5 == 0),w24,w25,w26,w27,w28,w29,w30,w31,w32] M) fun k => cond (x5 == 0) (cond (x7 == 0) ((call 19 #[.slice Ax6 lx6 cx6, .slice Ax3 lx3 cx3] M).bind fun r_1 => (asB r_1.1).bind fun b_2 => k (.bool b_2) (.bool true) (.int .i64 x7) (.bool (x7 == 0)) (.bool (x7 == 0)) (.bool true) (.slice Ax6 lx6 cx6) (.slice Ax3 lx3 cx3) (.bool b_2) (.bool b_2) r_1.2) (k (.bool false) (.bool true) (.int .i64 x7) (.bool (x7 == 0)) (.bool (x7 == 0)) (.bool false) undef undef undef (.bool false) M)) (k (.bool false) (.bool false) undef undef (.bool false) (.bool false) undef undef undef (.bool false) M) := by kernel_rfl
theorem k5_19 : P5 [1,1,1,1,1,1] = .ret := by kernel_rfl
theorem w5_0 {Ax0 : Option Addr} {lx0 cx0 : Nat} {M : Mem} {Q : Value → Mem → Prop} (H :
    Cn Try.prog 15 #[] M fun v1' N1' =>
     ∃ b2', asB v1' = some b2' ∧
     (((!b2') = true →
      Q (.bool false) N1') ∧
      ((!b2') = false →
      Cn Try.prog 18 #[.slice Ax0 lx0 cx0, .int .i64 4, .int .i64 255] N1' fun v3' N3' =>
       ∃ s4', asS v3' = some s4' ∧
       Cn Try.prog 16 #[.int .i64 4, .int .i64 9, .slice s4'.1 s4'.2.1 s4'.2.2] N3' fun v5' N5' =>
        ∃ cs6', asU 2 v5' = some cs6' ∧
        ∃ s7', asS (cs6'.getD 0 undef) = some s7' ∧
        ∃ x8', asI .i64 (cs6'.getD 1 undef) = some x8' ∧
        Cn Try.prog 12 #[.int .i64 4, .int .i64 9, .slice s7'.1 s7'.2.1 s7'.2.2] N5' fun v9' N9' =>
         ∃ cs10', asU 2 v9' = some cs10' ∧
         ∃ s11', asS (cs10'.getD 0 undef) = some s11' ∧
         ∃ x12', asI .i64 (cs10'.getD 1 undef) = some x12' ∧
         ((x8' = 0 →
          ((x12' = 0 →
           Cn Try.prog 19 #[.slice s11'.1 s11'.2.1 s11'.2.2, .slice s4'.1 s4'.2.1 s4'.2.2] N9' fun v13' N13' =>
            ∃ b14', asB v13' = some b14' ∧
            Q (.bool b14') N13') ∧
           (x12' ≠ 0 →
           Q (.bool false) N9'))) ∧
          (x8' ≠ 0 →
          Q (.bool false) N9'))))) :
    Cn Try.prog 5 #[.slice Ax0 lx0 cx0] M Q := by
  refine Cn.of b5 d5 t5 ?_
  refine Rn.seq k5_0 (Rn.region k5_1 (fun call K => r5_0) (Rch.leaf (Rn.seq k5_2 (Rn.seq k5_3 (Rn.region k5_4 (fun call K => r5_1) (Rch.call H fun v1' N1' H => Rch.ex H fun b2' H => Rch.leaf ?_))))))
  refine Rn.cnd (v := !b2') ⟨c5_5, rfl, by kernel_rfl⟩ (fun h => ?_) (fun h => ?_)
  · replace H := H.1 (h)
    refine Rn.seq k5_6 (Rn.region k5_7 (fun call K => r5_2) (Rch.leaf ?_))
    exact Rn.ret k5_8 e5 H
  · replace H := H.2 (h)
    refine Rn.skip k5_10 (Rn.seq k5_11 (Rn.region k5_12 (fun call K => r5_3) (Rch.call H fun v3' N3' H => Rch.ex H fun s4' H => Rch.leaf (Rn.seq k5_13 (Rn.region k5_14 (fun call K => r5_4) (Rch.call H fun v5' N5' H => Rch.ex H fun cs6' H => Rch.ex H fun s7' H => Rch.ex H fun x8' H => ?_))))))
    refine Rch.leaf (Rn.seq k5_15 (Rn.region k5_16 (fun call K => r5_5) (Rch.call H fun v9' N9' H => Rch.ex H fun cs10' H => Rch.ex H fun s11' H => Rch.ex H fun x12' H => Rch.leaf (Rn.seq k5_17 (Rn.region k5_18 (fun call K => r5_6) ?_)))))
    refine Rch.cB (fun h => ?_) (fun h => ?_)
    · replace H := H.1 (eq_of_beq h)
      refine Rch.cB (fun h => ?_) (fun h => ?_)
      · replace H := H.1 (eq_of_beq h)
        refine Rch.call H fun v13' N13' H => Rch.ex H fun b14' H => Rch.leaf ?_
        exact Rn.ret k5_19 e5 H
      · replace H := H.2 (ne_of_beq_false h)
        refine Rch.leaf ?_
        exact Rn.ret k5_19 e5 H
    · replace H := H.2 (ne_of_beq_false h)
      refine Rch.leaf ?_
      exact Rn.ret k5_19 e5 H


/-! ### zoetrope/zoetropelaw08.TxfmFlat: function 6 -/
noncomputable abbrev P6 (p : List Nat) : Code := subC (codeOf Try.f6) p
noncomputable abbrev O6 (p : List Nat) : Array Oper := opsOf (subC (codeOf Try.f6) p)
theorem d6 : Try.f6.body = some (P6 []) := by kernel_rfl
theorem e6 {M : Mem} : finish Try.prog Try.f6 #[g0,g1,g2,g3,g4,g5,g6,g7,g8,g9,g10,g11,g12,g13,g14,g15,g16,g17,g18,g19,g20,g21,g22,g23,g24,g25,g26,g27,g28,g29,g30,g31,g32,g33,g34,g35,g36,g37,g38,g39,g40,g41,g42,g43,g44,g45,g46,g47,g48,g49,g50,g51,g52,g53,g54,g55,g56,g57,g58,g59,g60,g61,g62,g63] M = some (g2, M) := by kernel_rfl
end Go.Zt

