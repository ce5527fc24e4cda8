/- The functions' walks: for each function and each loop a rule of what it comes to. Printed by zw.py. -/
import Derived.Test.YtpfhalehdgcbeaaProg
import Derived.Test.YtpfhalehdgcbeaaZgA
set_option linter.unusedVariables false
set_option maxRecDepth 100000
namespace Go.Zt
open Go Go.Sim Go.Proofs

variable {g0 g1 g2 g3 g4 g5 g6 g7 g8 g9 g10 g11 g12 g13 g14 g15 g16 g17 g18 g19 g20 g21 g22 g23 g24 g25 g26 g27 g28 g29 g30 g31 g32 g33 g34 g35 g36 g37 g38 g39 g40 g41 g42 g43 g44 g45 g46 g47 g48 g49 g50 g51 g52 g53 g54 g55 g56 g57 g58 g59 g60 g61 g62 : Value}
/-! ### zoetrope/zoetropelaw08.works: function 15 -/
noncomputable abbrev P15 (p : List Nat) : Code := subC (codeOf Try.f15) p
noncomputable abbrev O15 (p : List Nat) : Array Oper := opsOf (subC (codeOf Try.f15) p)
theorem b15 : Try.prog.funcs[15]? = some Try.f15 ∧ (Orc.tab Try.prog).lookup 15 = none := ⟨by kernel_rfl, by kernel_rfl⟩
theorem d15 : Try.f15.body = some (P15 []) := by kernel_rfl
theorem t15 : #[] ++ Array.replicate (Try.f15.ntmps - (#[] : Array Value).size) undef = #[undef,undef,undef,undef,undef,undef,undef,undef,undef,undef,undef,undef,undef,undef,undef,undef,undef,undef,undef,undef,undef,undef,undef,undef,undef,undef,undef,undef,undef,undef,undef,undef,undef,undef,undef,undef,undef,undef,undef,undef,undef,undef,undef,undef,undef,undef,undef,undef,undef,undef,undef,undef,undef,undef,undef,undef,undef,undef,undef,undef,undef,undef,undef] := by kernel_rfl
theorem k15_0 : P15 [] = .seq (P15 [0]) (P15 [1]) := by kernel_rfl
theorem k15_1 : P15 [0] = .region 0 (O15 [0]) false := by kernel_rfl
theorem r15_0 {M : Mem} {call : CallM} {K : Array Value → Mem → R} :
    opsK Try.prog (fun _ => call) (O15 [0]) (O15 [0]).toList 0 #[g0,g1,g2,g3,g4,g5,g6,g7,g8,g9,g10,g11,g12,g13,g14,g15,g16,g17,g18,g19,g20,g21,g22,g23,g24,g25,g26,g27,g28,g29,g30,g31,g32,g33,g34,g35,g36,g37,g38,g39,g40,g41,g42,g43,g44,g45,g46,g47,g48,g49,g50,g51,g52,g53,g54,g55,g56,g57,g58,g59,g60,g61,g62] M K = K #[.bool false,g1,g2,g3,g4,g5,g6,g7,g8,g9,g10,g11,g12,g13,g14,g15,g16,g17,g18,g19,g20,g21,g22,g23,g24,g25,g26,g27,g28,g29,g30,g31,g32,g33,g34,g35,g36,g37,g38,g39,g40,g41,g42,g43,g44,g45,g46,g47,g48,g49,g50,g51,g52,g53,g54,g55,g56,g57,g58,g59,g60,g61,g62] M := by kernel_rfl
theorem k15_2 : P15 [1] = .seq (P15 [1,0]) (P15 [1,1]) := by kernel_rfl
theorem k15_3 : P15 [1,0] = .region 1 (O15 [1,0]) false := by kernel_rfl
theorem r15_1 {M : Mem} {call : CallM} {K : Array Value → Mem → R} :
    opsK Try.prog (fun _ => call) (O15 [1,0]) (O15 [1,0]).toList 0 #[g0,g1,g2,g3,g4,g5,g6,g7,g8,g9,g10,g11,g12,g13,g14,g15,g16,g17,g18,g19,g20,g21,g22,g23,g24,g25,g26,g27,g28,g29,g30,g31,g32,g33,g34,g35,g36,g37,g38,g39,g40,g41,g42,g43,g44,g45,g46,g47,g48,g49,g50,g51,g52,g53,g54,g55,g56,g57,g58,g59,g60,g61,g62] M K = (call 21 #[.int .i64 16, .int .i64 10, .int .i64 10] M).bind fun r_1 => (asS r_1.1).bind fun s_2 => (call 16 #[.int .i64 4, .int .i64 0, .slice s_2.1 (s_2.2.1) (s_2.2.2)] r_1.2).bind fun r_3 => (asU 2 r_3.1).bind fun cs_4 => (asS (cs_4.getD 0 undef)).bind fun s_5 => (asI .i64 (cs_4.getD 1 undef)).bind fun x_6 => K #[g0,.slice s_5.1 (s_5.2.1) (s_5.2.2),.int .i64 x_6,g3,g4,g5,g6,g7,g8,.tuple #[.slice s_5.1 (s_5.2.1) (s_5.2.2), .int .i64 x_6],.slice s_2.1 (s_2.2.1) (s_2.2.2),.tuple #[.slice s_5.1 (s_5.2.1) (s_5.2.2), .int .i64 x_6],.slice s_5.1 (s_5.2.1) (s_5.2.2),.int .i64 x_6,g14,g15,g16,g17,g18,g19,g20,g21,g22,g23,g24,g25,g26,g27,g28,g29,g30,g31,g32,g33,g34,g35,g36,g37,g38,g39,g40,g41,g42,g43,g44,g45,g46,g47,g48,g49,g50,g51,g52,g53,g54,g55,g56,g57,g58,g59,g60,g61,g62] r_3.2 := by kernel_rfl
theorem k15_4 : P15 [1,1] = .seq (P15 [1,1,0]) (P15 [1,1,1]) := by kernel_rfl
theorem k15_5 : P15 [1,1,0] = .region 2 (O15 [1,1,0]) false := by kernel_rfl
theorem r15_2 {M : Mem} {call : CallM} {K : Array Value → Mem → R} :
    opsK Try.prog (fun _ => call) (O15 [1,1,0]) (O15 [1,1,0]).toList 0 #[g0,g1,g2,g3,g4,g5,g6,g7,g8,g9,g10,g11,g12,g13,g14,g15,g16,g17,g18,g19,g20,g21,g22,g23,g24,g25,g26,g27,g28,g29,g30,g31,g32,g33,g34,g35,g36,g37,g38,g39,g40,g41,g42,g43,g44,g45,g46,g47,g48,g49,g50,g51,g52,g53,g54,g55,g56,g57,g58,g59,g60,g61,g62] M K = (call 21 #[.int .i64 16, .int .i64 320, .int .i64 0] M).bind fun r_1 => (asS r_1.1).bind fun s_2 => (call 12 #[.int .i64 4, .int .i64 0, .slice s_2.1 (s_2.2.1) (s_2.2.2)] r_1.2).bind fun r_3 => (asU 2 r_3.1).bind fun cs_4 => (asS (cs_4.getD 0 undef)).bind fun s_5 => (asI .i64 (cs_4.getD 1 undef)).bind fun x_6 => K #[g0,g1,g2,.slice s_5.1 (s_5.2.1) (s_5.2.2),.int .i64 x_6,g5,g6,g7,g8,g9,g10,g11,g12,g13,.tuple #[.slice s_5.1 (s_5.2.1) (s_5.2.2), .int .i64 x_6],.slice s_2.1 (s_2.2.1) (s_2.2.2),.tuple #[.slice s_5.1 (s_5.2.1) (s_5.2.2), .int .i64 x_6],.slice s_5.1 (s_5.2.1) (s_5.2.2),.int .i64 x_6,g19,g20,g21,g22,g23,g24,g25,g26,g27,g28,g29,g30,g31,g32,g33,g34,g35,g36,g37,g38,g39,g40,g41,g42,g43,g44,g45,g46,g47,g48,g49,g50,g51,g52,g53,g54,g55,g56,g57,g58,g59,g60,g61,g62] r_3.2 := by kernel_rfl
theorem k15_6 : P15 [1,1,1] = .seq (P15 [1,1,1,0]) (P15 [1,1,1,1]) := by kernel_rfl
theorem k15_7 : P15 [1,1,1,0] = .region 3 (O15 [1,1,1,0]) false := by kernel_rfl
theorem r15_3 {M : Mem} {call : CallM} {K : Array Value → Mem → R} :
    opsK Try.prog (fun _ => call) (O15 [1,1,1,0]) (O15 [1,1,1,0]).toList 0 #[g0,g1,g2,g3,g4,g5,g6,g7,g8,g9,g10,g11,g12,g13,g14,g15,g16,g17,g18,g19,g20,g21,g22,g23,g24,g25,g26,g27,g28,g29,g30,g31,g32,g33,g34,g35,g36,g37,g38,g39,g40,g41,g42,g43,g44,g45,g46,g47,g48,g49,g50,g51,g52,g53,g54,g55,g56,g57,g58,g59,g60,g61,g62] M K = (call 21 #[.int .i64 16, .int .i64 4, .int .i64 0] M).bind fun r_1 => (asS r_1.1).bind fun s_2 => (call 12 #[.int .i64 4, .int .i64 9, .slice s_2.1 (s_2.2.1) (s_2.2.2)] r_1.2).bind fun r_3 => (asU 2 r_3.1).bind fun cs_4 => (asS (cs_4.getD 0 undef)).bind fun s_5 => (asI .i64 (cs_4.getD 1 undef)).bind fun x_6 => K #[g0,g1,g2,g3,g4,.slice s_5.1 (s_5.2.1) (s_5.2.2),.int .i64 x_6,g7,g8,g9,g10,g11,g12,g13,g14,g15,g16,g17,g18,.tuple #[.slice s_5.1 (s_5.2.1) (s_5.2.2), .int .i64 x_6],.slice s_2.1 (s_2.2.1) (s_2.2.2),.tuple #[.slice s_5.1 (s_5.2.1) (s_5.2.2), .int .i64 x_6],.slice s_5.1 (s_5.2.1) (s_5.2.2),.int .i64 x_6,g24,g25,g26,g27,g28,g29,g30,g31,g32,g33,g34,g35,g36,g37,g38,g39,g40,g41,g42,g43,g44,g45,g46,g47,g48,g49,g50,g51,g52,g53,g54,g55,g56,g57,g58,g59,g60,g61,g62] r_3.2 := by kernel_rfl
theorem k15_8 : P15 [1,1,1,1] = .seq (P15 [1,1,1,1,0]) (P15 [1,1,1,1,1]) := by kernel_rfl
theorem k15_9 : P15 [1,1,1,1,0] = .region 4 (O15 [1,1,1,1,0]) false := by kernel_rfl
theorem r15_4 {M : Mem} {call : CallM} {K : Array Value → Mem → R} :
    opsK Try.prog (fun _ => call) (O15 [1,1,1,1,0]) (O15 [1,1,1,1,0]).toList 0 #[g0,g1,g2,g3,g4,g5,g6,g7,g8,g9,g10,g11,g12,g13,g14,g15,g16,g17,g18,g19,g20,g21,g22,g23,g24,g25,g26,g27,g28,g29,g30,g31,g32,g33,g34,g35,g36,g37,g38,g39,g40,g41,g42,g43,g44,g45,g46,g47,g48,g49,g50,g51,g52,g53,g54,g55,g56,g57,g58,g59,g60,g61,g62] M K = (call 21 #[.int .i64 16, .int .i64 3, .int .i64 3] M).bind fun r_1 => (asS r_1.1).bind fun s_2 => (call 16 #[.int .i64 4, .int .i64 9, .slice s_2.1 (s_2.2.1) (s_2.2.2)] r_1.2).bind fun r_3 => (asU 2 r_3.1).bind fun cs_4 => (asS (cs_4.getD 0 undef)).bind fun s_5 => (asI .i64 (cs_4.getD 1 undef)).bind fun x_6 => K #[g0,g1,g2,g3,g4,g5,g6,.slice s_5.1 (s_5.2.1) (s_5.2.2),.int .i64 x_6,g9,g10,g11,g12,g13,g14,g15,g16,g17,g18,g19,g20,g21,g22,g23,.tuple #[.slice s_5.1 (s_5.2.1) (s_5.2.2), .int .i64 x_6],.slice s_2.1 (s_2.2.1) (s_2.2.2),.tuple #[.slice s_5.1 (s_5.2.1) (s_5.2.2), .int .i64 x_6],.slice s_5.1 (s_5.2.1) (s_5.2.2),.int .i64 x_6,g29,g30,g31,g32,g33,g34,g35,g36,g37,g38,g39,g40,g41,g42,g43,g44,g45,g46,g47,g48,g49,g50,g51,g52,g53,g54,g55,g56,g57,g58,g59,g60,g61,g62] r_3.2 := by kernel_rfl
theorem k15_10 : P15 [1,1,1,1,1] = .seq (P15 [1,1,1,1,1,0]) (P15 [1,1,1,1,1,1]) := by kernel_rfl
theorem k15_12 : P15 [1,1,1,1,1,0] = .region 5 (O15 [1,1,1,1,1,0]) false ∧ (!false || drawOk (O15 [1,1,1,1,1,0])) = true := ⟨by kernel_rfl, by kernel_rfl⟩
theorem r15_5p0 {x2 x4 : Int} {M : Mem} {call : CallM} {K : Array Value → Mem → R} :
    segK Try.prog false call (O15 [1,1,1,1,1,0]) 0 7 #[g0,g1,.int .i64 x2,g3,.int .i64 x4,g5,g6,g7,g8,g9,g10,g11,g12,g13,g14,g15,g16,g17,g18,g19,g20,g21,g22,g23,g24,g25,g26,g27,g28,g29,g30,g31,g32,g33,g34,g35,g36,g37,g38,g39,g40,g41,g42,g43,g44,g45,g46,g47,g48,g49,g50,g51,g52,g53,g54,g55,g56,g57,g58,g59,g60,g61,g62] M K = withK (fun w31 w32 w33 w34 w35 M => K #[g0,g1,.int .i64 x2,g3,.int .i64 x4,g5,g6,g7,g8,g9,g10,g11,g12,g13,g14,g15,g16,g17,g18,g19,g20,g21,g22,g23,g24,g25,g26,g27,g28,.int .i64 x2,.bool (x2 == 0),w31,w32,w33,w34,w35,g36,g37,g38,g39,g40,g41,g42,g43,g44,g45,g46,g47,g48,g49,g50,g51,g52,g53,g54,g55,g56,g57,g58,g59,g60,g61,g62] M) fun k => cond (x2 == 0) (k (.bool true) (.int .i64 x4) (.bool (x4 == 0)) (.bool (x4 == 0)) (.bool (x4 == 0)) M) (k (.bool false) undef undef (.bool false) (.bool false) M) := by kernel_rfl
theorem r15_5p7 {x6 : Int} {x35 : Bool} {M : Mem} {call : CallM} {K : Array Value → Mem → R} :
    segK Try.prog false call (O15 [1,1,1,1,1,0]) 7 4 #[g0,g1,g2,g3,g4,g5,.int .i64 x6,g7,g8,g9,g10,g11,g12,g13,g14,g15,g16,g17,g18,g19,g20,g21,g22,g23,g24,g25,g26,g27,g28,g29,g30,g31,g32,g33,g34,.bool x35,g36,g37,g38,g39,g40,g41,g42,g43,g44,g45,g46,g47,g48,g49,g50,g51,g52,g53,g54,g55,g56,g57,g58,g59,g60,g61,g62] M K = withK (fun w35 w36 w37 w38 w39 M => K #[g0,g1,g2,g3,g4,g5,.int .i64 x6,g7,g8,g9,g10,g11,g12,g13,g14,g15,g16,g17,g18,g19,g20,g21,g22,g23,g24,g25,g26,g27,g28,g29,g30,g31,g32,g33,g34,w35,w36,w37,w38,w39,g40,g41,g42,g43,g44,g45,g46,g47,g48,g49,g50,g51,g52,g53,g54,g55,g56,g57,g58,g59,g60,g61,g62] M) fun k => cond x35 (k (.bool true) (.int .i64 x6) (.bool (x6 == 0)) (.bool (x6 == 0)) (.bool (x6 == 0)) M) (k (.bool false) undef undef (.bool false) (.bool false) M) := by kernel_rfl
theorem r15_5p11 {x8 : Int} {x39 : Bool} {M : Mem} {call : CallM} {K : Array Value → Mem → R} :
    segK Try.prog false call (O15 [1,1,1,1,1,0]) 11 4 #[g0,g1,g2,g3,g4,g5,g6,g7,.int .i64 x8,g9,g10,g11,g12,g13,g14,g15,g16,g17,g18,g19,g20,g21,g22,g23,g24,g25,g26,g27,g28,g29,g30,g31,g32,g33,g34,g35,g36,g37,g38,.bool x39,g40,g41,g42,g43,g44,g45,g46,g47,g48,g49,g50,g51,g52,g53,g54,g55,g56,g57,g58,g59,g60,g61,g62] M K = withK (fun w39 w40 w41 w42 w43 M => K #[g0,g1,g2,g3,g4,g5,g6,g7,.int .i64 x8,g9,g10,g11,g12,g13,g14,g15,g16,g17,g18,g19,g20,g21,g22,g23,g24,g25,g26,g27,g28,g29,g30,g31,g32,g33,g34,g35,g36,g37,g38,w39,w40,w41,w42,w43,g44,g45,g46,g47,g48,g49,g50,g51,g52,g53,g54,g55,g56,g57,g58,g59,g60,g61,g62] M) fun k => cond x39 (k (.bool true) (.int .i64 x8) (.bool (x8 == 0)) (.bool (x8 == 0)) (.bool (x8 == 0)) M) (k (.bool false) undef undef (.bool false) (.bool false) M) := by kernel_rfl
theorem r15_5p15 {Ax1 : Option Addr} {lx1 cx1 : Nat} {x43 : Bool} {M : Mem} {call : CallM} {K : Array Value → Mem → R} :
    segK Try.prog false call (O15 [1,1,1,1,1,0]) 15 5 #[g0,.slice Ax1 lx1 cx1,g2,g3,g4,g5,g6,g7,g8,g9,g10,g11,g12,g13,g14,g15,g16,g17,g18,g19,g20,g21,g22,g23,g24,g25,g26,g27,g28,g29,g30,g31,g32,g33,g34,g35,g36,g37,g38,g39,g40,g41,g42,.bool x43,g44,g45,g46,g47,g48,g49,g50,g51,g52,g53,g54,g55,g56,g57,g58,g59,g60,g61,g62] M K = withK (fun w43 w44 w45 w46 w47 w48 M => K #[g0,.slice Ax1 lx1 cx1,g2,g3,g4,g5,g6,g7,g8,g9,g10,g11,g12,g13,g14,g15,g16,g17,g18,g19,g20,g21,g22,g23,g24,g25,g26,g27,g28,g29,g30,g31,g32,g33,g34,g35,g36,g37,g38,g39,g40,g41,g42,w43,w44,w45,w46,w47,w48,g49,g50,g51,g52,g53,g54,g55,g56,g57,g58,g59,g60,g61,g62] M) fun k => cond x43 ((call 21 #[.int .i64 16, .int .i64 316, .int .i64 0] M).bind fun r_1 => (asS r_1.1).bind fun s_2 => (call 19 #[.slice Ax1 lx1 cx1, .slice s_2.1 (s_2.2.1) (s_2.2.2)] r_1.2).bind fun r_3 => (asB r_3.1).bind fun b_4 => k (.bool true) (.slice Ax1 lx1 cx1) (.slice s_2.1 (s_2.2.1) (s_2.2.2)) (.bool b_4) (.bool b_4) (.bool b_4) r_3.2) (k (.bool false) undef undef undef (.bool false) (.bool false) M) := by kernel_rfl
theorem r15_5p20 {Ax3 : Option Addr} {lx3 cx3 : Nat} {x48 : Bool} {M : Mem} {call : CallM} {K : Array Value → Mem → R} :
    segK Try.prog false call (O15 [1,1,1,1,1,0]) 20 5 #[g0,g1,g2,.slice Ax3 lx3 cx3,g4,g5,g6,g7,g8,g9,g10,g11,g12,g13,g14,g15,g16,g17,g18,g19,g20,g21,g22,g23,g24,g25,g26,g27,g28,g29,g30,g31,g32,g33,g34,g35,g36,g37,g38,g39,g40,g41,g42,g43,g44,g45,g46,g47,.bool x48,g49,g50,g51,g52,g53,g54,g55,g56,g57,g58,g59,g60,g61,g62] M K = withK (fun w48 w49 w50 w51 w52 w53 M => K #[g0,g1,g2,.slice Ax3 lx3 cx3,g4,g5,g6,g7,g8,g9,g10,g11,g12,g13,g14,g15,g16,g17,g18,g19,g20,g21,g22,g23,g24,g25,g26,g27,g28,g29,g30,g31,g32,g33,g34,g35,g36,g37,g38,g39,g40,g41,g42,g43,g44,g45,g46,g47,w48,w49,w50,w51,w52,w53,g54,g55,g56,g57,g58,g59,g60,g61,g62] M) fun k => cond x48 ((call 21 #[.int .i64 16, .int .i64 10, .int .i64 10] M).bind fun r_1 => (asS r_1.1).bind fun s_2 => (call 19 #[.slice Ax3 lx3 cx3, .slice s_2.1 (s_2.2.1) (s_2.2.2)] r_1.2).bind fun r_3 => (asB r_3.1).bind fun b_4 => k (.bool true) (.slice Ax3 lx3 cx3) (.slice s_2.1 (s_2.2.1) (s_2.2.2)) (.bool b_4) (.bool b_4) (.bool b_4) r_3.2) (k (.bool false) undef undef undef (.bool false) (.bool false) M) := by kernel_rfl
theorem r15_5p25 {Ax5 : Option Addr} {lx5 cx5 : Nat} {x53 : Bool} {M : Mem} {call : CallM} {K : Array Value → Mem → R} :
    segK Try.prog false call (O15 [1,1,1,1,1,0]) 25 5 #[g0,g1,g2,g3,g4,.slice Ax5 lx5 cx5,g6,g7,g8,g9,g10,g11,g12,g13,g14,g15,g16,g17,g18,g19,g20,g21,g22,g23,g24,g25,g26,g27,g28,g29,g30,g31,g32,g33,g34,g35,g36,g37,g38,g39,g40,g41,g42,g43,g44,g45,g46,g47,g48,g49,g50,g51,g52,.bool x53,g54,g55,g56,g57,g58,g59,g60,g61,g62] M K = withK (fun w53 w54 w55 w56 w57 w58 M => K #[g0,g1,g2,g3,g4,.slice Ax5 lx5 cx5,g6,g7,g8,g9,g10,g11,g12,g13,g14,g15,g16,g17,g18,g19,g20,g21,g22,g23,g24,g25,g26,g27,g28,g29,g30,g31,g32,g33,g34,g35,g36,g37,g38,g39,g40,g41,g42,g43,g44,g45,g46,g47,g48,g49,g50,g51,g52,w53,w54,w55,w56,w57,w58,g59,g60,g61,g62] M) fun k => cond x53 ((call 21 #[.int .i64 16, .int .i64 1, .int .i64 1] M).bind fun r_1 => (asS r_1.1).bind fun s_2 => (call 19 #[.slice Ax5 lx5 cx5, .slice s_2.1 (s_2.2.1) (s_2.2.2)] r_1.2).bind fun r_3 => (asB r_3.1).bind fun b_4 => k (.bool true) (.slice Ax5 lx5 cx5) (.slice s_2.1 (s_2.2.1) (s_2.2.2)) (.bool b_4) (.bool b_4) (.bool b_4) r_3.2) (k (.bool false) undef undef undef (.bool false) (.bool false) M) := by kernel_rfl
theorem r15_5p30 {Ax7 : Option Addr} {lx7 cx7 : Nat} {x58 : Bool} {M : Mem} {call : CallM} {K : Array Value → Mem → R} :
    segK Try.prog false call (O15 [1,1,1,1,1,0]) 30 5 #[g0,g1,g2,g3,g4,g5,g6,.slice Ax7 lx7 cx7,g8,g9,g10,g11,g12,g13,g14,g15,g16,g17,g18,g19,g20,g21,g22,g23,g24,g25,g26,g27,g28,g29,g30,g31,g32,g33,g34,g35,g36,g37,g38,g39,g40,g41,g42,g43,g44,g45,g46,g47,g48,g49,g50,g51,g52,g53,g54,g55,g56,g57,.bool x58,g59,g60,g61,g62] M K = withK (fun w0 w58 w59 w60 w61 w62 M => K #[w0,g1,g2,g3,g4,g5,g6,.slice Ax7 lx7 cx7,g8,g9,g10,g11,g12,g13,g14,g15,g16,g17,g18,g19,g20,g21,g22,g23,g24,g25,g26,g27,g28,g29,g30,g31,g32,g33,g34,g35,g36,g37,g38,g39,g40,g41,g42,g43,g44,g45,g46,g47,g48,g49,g50,g51,g52,g53,g54,g55,g56,g57,w58,w59,w60,w61,w62] M) fun k => cond x58 ((call 21 #[.int .i64 16, .int .i64 12, .int .i64 0] M).bind fun r_1 => (asS r_1.1).bind fun s_2 => (call 19 #[.slice Ax7 lx7 cx7, .slice s_2.1 (s_2.2.1) (s_2.2.2)] r_1.2).bind fun r_3 => (asB r_3.1).bind fun b_4 => k (.bool b_4) (.bool true) (.slice Ax7 lx7 cx7) (.slice s_2.1 (s_2.2.1) (s_2.2.2)) (.bool b_4) (.bool b_4) r_3.2) (k (.bool false) (.bool false) undef undef undef (.bool false) M) := by kernel_rfl
theorem k15_13 : P15 [1,1,1,1,1,1] = .ret := by kernel_rfl
theorem e15 {M : Mem} : finish Try.prog Try.f15 #[g0,g1,g2,g3,g4,g5,g6,g7,g8,g9,g10,g11,g12,g13,g14,g15,g16,g17,g18,g19,g20,g21,g22,g23,g24,g25,g26,g27,g28,g29,g30,g31,g32,g33,g34,g35,g36,g37,g38,g39,g40,g41,g42,g43,g44,g45,g46,g47,g48,g49,g50,g51,g52,g53,g54,g55,g56,g57,g58,g59,g60,g61,g62] M = some (g0, M) := by kernel_rfl
noncomputable def S15_1 : List Item := [.code (P15 [1,1,1,1,1,1])]
def A15_1 (Ax1 : Option Addr) (lx1 cx1 : Nat) (Ax3 : Option Addr) (lx3 cx3 : Nat) (Ax5 : Option Addr) (lx5 cx5 : Nat) (x6 : Int) (Ax7 : Option Addr) (lx7 cx7 : Nat) (x8 : Int) (x35 : Bool) (M : Mem) (Q : Value → Mem → Prop) : Prop := ∀ (g0 g2 g4 g9 g10 g11 g12 g13 g14 g15 g16 g17 g18 g19 g20 g21 g22 g23 g24 g25 g26 g27 g28 g29 g30 g31 g32 g33 g34 g36 g37 g38 g39 g40 g41 g42 g43 g44 g45 g46 g47 g48 g49 g50 g51 g52 g53 g54 g55 g56 g57 g58 g59 g60 g61 g62 : Value), Rg Try.prog Try.f15 (O15 [1,1,1,1,1,0]) false 7 S15_1 #[g0, .slice Ax1 lx1 cx1, g2, .slice Ax3 lx3 cx3, g4, .slice Ax5 lx5 cx5, .int .i64 x6, .slice Ax7 lx7 cx7, .int .i64 x8, g9, g10, g11, g12, g13, g14, g15, g16, g17, g18, g19, g20, g21, g22, g23, g24, g25, g26, g27, g28, g29, g30, g31, g32, g33, g34, .bool x35, g36, g37, g38, g39, g40, g41, g42, g43, g44, g45, g46, g47, g48, g49, g50, g51, g52, g53, g54, g55, g56, g57, g58, g59, g60, g61, g62] M Q
noncomputable def S15_2 : List Item := [.code (P15 [1,1,1,1,1,1])]
def A15_2 (Ax1 : Option Addr) (lx1 cx1 : Nat) (Ax3 : Option Addr) (lx3 cx3 : Nat) (Ax5 : Option Addr) (lx5 cx5 : Nat) (Ax7 : Option Addr) (lx7 cx7 : Nat) (x8 : Int) (x39 : Bool) (M : Mem) (Q : Value → Mem → Prop) : Prop := ∀ (g0 g2 g4 g6 g9 g10 g11 g12 g13 g14 g15 g16 g17 g18 g19 g20 g21 g22 g23 g24 g25 g26 g27 g28 g29 g30 g31 g32 g33 g34 g35 g36 g37 g38 g40 g41 g42 g43 g44 g45 g46 g47 g48 g49 g50 g51 g52 g53 g54 g55 g56 g57 g58 g59 g60 g61 g62 : Value), Rg Try.prog Try.f15 (O15 [1,1,1,1,1,0]) false 11 S15_2 #[g0, .slice Ax1 lx1 cx1, g2, .slice Ax3 lx3 cx3, g4, .slice Ax5 lx5 cx5, g6, .slice Ax7 lx7 cx7, .int .i64 x8, g9, g10, g11, g12, g13, g14, g15, g16, g17, g18, g19, g20, g21, g22, g23, g24, g25, g26, g27, g28, g29, g30, g31, g32, g33, g34, g35, g36, g37, g38, .bool x39, g40, g41, g42, g43, g44, g45, g46, g47, g48, g49, g50, g51, g52, g53, g54, g55, g56, g57, g58, g59, g60, g61, g62] M Q
noncomputable def S15_3 : List Item := [.code (P15 [1,1,1,1,1,1])]
def A15_3 (Ax1 : Option Addr) (lx1 cx1 : Nat) (Ax3 : Option Addr) (lx3 cx3 : Nat) (Ax5 : Option Addr) (lx5 cx5 : Nat) (Ax7 : Option Addr) (lx7 cx7 : Nat) (x43 : Bool) (M : Mem) (Q : Value → Mem → Prop) : Prop := ∀ (g0 g2 g4 g6 g8 g9 g10 g11 g12 g13 g14 g15 g16 g17 g18 g19 g20 g21 g22 g23 g24 g25 g26 g27 g28 g29 g30 g31 g32 g33 g34 g35 g36 g37 g38 g39 g40 g41 g42 g44 g45 g46 g47 g48 g49 g50 g51 g52 g53 g54 g55 g56 g57 g58 g59 g60 g61 g62 : Value), Rg Try.prog Try.f15 (O15 [1,1,1,1,1,0]) false 15 S15_3 #[g0, .slice Ax1 lx1 cx1, g2, .slice Ax3 lx3 cx3, g4, .slice Ax5 lx5 cx5, g6, .slice Ax7 lx7 cx7, g8, g9, g10, g11, g12, g13, g14, g15, g16, g17, g18, g19, g20, g21, g22, g23, g24, g25, g26, g27, g28, g29, g30, g31, g32, g33, g34, g35, g36, g37, g38, g39, g40, g41, g42, .bool x43, g44, g45, g46, g47, g48, g49, g50, g51, g52, g53, g54, g55, g56, g57, g58, g59, g60, g61, g62] M Q
noncomputable def S15_4 : List Item := [.code (P15 [1,1,1,1,1,1])]
def A15_4 (Ax3 : Option Addr) (lx3 cx3 : Nat) (Ax5 : Option Addr) (lx5 cx5 : Nat) (Ax7 : Option Addr) (lx7 cx7 : Nat) (x48 : Bool) (M : Mem) (Q : Value → Mem → Prop) : Prop := ∀ (g0 g1 g2 g4 g6 g8 g9 g10 g11 g12 g13 g14 g15 g16 g17 g18 g19 g20 g21 g22 g23 g24 g25 g26 g27 g28 g29 g30 g31 g32 g33 g34 g35 g36 g37 g38 g39 g40 g41 g42 g43 g44 g45 g46 g47 g49 g50 g51 g52 g53 g54 g55 g56 g57 g58 g59 g60 g61 g62 : Value), Rg Try.prog Try.f15 (O15 [1,1,1,1,1,0]) false 20 S15_4 #[g0, g1, g2, .slice Ax3 lx3 cx3, g4, .slice Ax5 lx5 cx5, g6, .slice Ax7 lx7 cx7, g8, g9, g10, g11, g12, g13, g14, g15, g16, g17, g18, g19, g20, g21, g22, g23, g24, g25, g26, g27, g28, g29, g30, g31, g32, g33, g34, g35, g36, g37, g38, g39, g40, g41, g42, g43, g44, g45, g46, g47, .bool x48, g49, g50, g51, g52, g53, g54, g55, g56, g57, g58, g59, g60, g61, g62] M Q
noncomputable def S15_5 : List Item := [.code (P15 [1,1,1,1,1,1])]
def A15_5 (Ax5 : Option Addr) (lx5 cx5 : Nat) (Ax7 : Option Addr) (lx7 cx7 : Nat) (x53 : Bool) (M : Mem) (Q : Value → Mem → Prop) : Prop := ∀ (g0 g1 g2 g3 g4 g6 g8 g9 g10 g11 g12 g13 g14 g15 g16 g17 g18 g19 g20 g21 g22 g23 g24 g25 g26 g27 g28 g29 g30 g31 g32 g33 g34 g35 g36 g37 g38 g39 g40 g41 g42 g43 g44 g45 g46 g47 g48 g49 g50 g51 g52 g54 g55 g56 g57 g58 g59 g60 g61 g62 : Value), Rg Try.prog Try.f15 (O15 [1,1,1,1,1,0]) false 25 S15_5 #[g0, g1, g2, g3, g4, .slice Ax5 lx5 cx5, g6, .slice Ax7 lx7 cx7, g8, g9, g10, g11, g12, g13, g14, g15, g16, g17, g18, g19, g20, g21, g22, g23, g24, g25, g26, g27, g28, g29, g30, g31, g32, g33, g34, g35, g36, g37, g38, g39, g40, g41, g42, g43, g44, g45, g46, g47, g48, g49, g50, g51, g52, .bool x53, g54, g55, g56, g57, g58, g59, g60, g61, g62] M Q
noncomputable def S15_6 : List Item := [.code (P15 [1,1,1,1,1,1])]
def A15_6 (Ax7 : Option Addr) (lx7 cx7 : Nat) (x58 : Bool) (M : Mem) (Q : Value → Mem → Prop) : Prop := ∀ (g0 g1 g2 g3 g4 g5 g6 g8 g9 g10 g11 g12 g13 g14 g15 g16 g17 g18 g19 g20 g21 g22 g23 g24 g25 g26 g27 g28 g29 g30 g31 g32 g33 g34 g35 g36 g37 g38 g39 g40 g41 g42 g43 g44 g45 g46 g47 g48 g49 g50 g51 g52 g53 g54 g55 g56 g57 g59 g60 g61 g62 : Value), Rg Try.prog Try.f15 (O15 [1,1,1,1,1,0]) false 30 S15_6 #[g0, g1, g2, g3, g4, g5, g6, .slice Ax7 lx7 cx7, g8, g9, g10, g11, g12, g13, g14, g15, g16, g17, g18, g19, g20, g21, g22, g23, g24, g25, g26, g27, g28, g29, g30, g31, g32, g33, g34, g35, g36, g37, g38, g39, g40, g41, g42, g43, g44, g45, g46, g47, g48, g49, g50, g51, g52, g53, g54, g55, g56, g57, .bool x58, g59, g60, g61, g62] M Q
theorem w15_0 {M : Mem} {Q : Value → Mem → Prop} (H :
    Cn Try.prog 21 #[.int .i64 16, .int .i64 10, .int .i64 10] M fun v1' N1' =>
     ∃ s2', asS v1' = some s2' ∧
     Cn Try.prog 16 #[.int .i64 4, .int .i64 0, .slice s2'.1 (s2'.2.1) (s2'.2.2)] N1' fun v3' N3' =>
      ∃ cs4', asU 2 v3' = some cs4' ∧
      ∃ s5', asS (cs4'.getD 0 undef) = some s5' ∧
      ∃ x6', asI .i64 (cs4'.getD 1 undef) = some x6' ∧
      Cn Try.prog 21 #[.int .i64 16, .int .i64 320, .int .i64 0] N3' fun v7' N7' =>
       ∃ s8', asS v7' = some s8' ∧
       Cn Try.prog 12 #[.int .i64 4, .int .i64 0, .slice s8'.1 (s8'.2.1) (s8'.2.2)] N7' fun v9' N9' =>
        ∃ cs10', asU 2 v9' = some cs10' ∧
        ∃ s11', asS (cs10'.getD 0 undef) = some s11' ∧
        ∃ x12', asI .i64 (cs10'.getD 1 undef) = some x12' ∧
        Cn Try.prog 21 #[.int .i64 16, .int .i64 4, .int .i64 0] N9' fun v13' N13' =>
         ∃ s14', asS v13' = some s14' ∧
         Cn Try.prog 12 #[.int .i64 4, .int .i64 9, .slice s14'.1 (s14'.2.1) (s14'.2.2)] N13' fun v15' N15' =>
          ∃ cs16', asU 2 v15' = some cs16' ∧
          ∃ s17', asS (cs16'.getD 0 undef) = some s17' ∧
          ∃ x18', asI .i64 (cs16'.getD 1 undef) = some x18' ∧
          Cn Try.prog 21 #[.int .i64 16, .int .i64 3, .int .i64 3] N15' fun v19' N19' =>
           ∃ s20', asS v19' = some s20' ∧
           Cn Try.prog 16 #[.int .i64 4, .int .i64 9, .slice s20'.1 (s20'.2.1) (s20'.2.2)] N19' fun v21' N21' =>
            ∃ cs22', asU 2 v21' = some cs22' ∧
            ∃ s23', asS (cs22'.getD 0 undef) = some s23' ∧
            ∃ x24', asI .i64 (cs22'.getD 1 undef) = some x24' ∧
            ((x6' = 0 →
             A15_1 s5'.1 s5'.2.1 s5'.2.2 s11'.1 s11'.2.1 s11'.2.2 s17'.1 s17'.2.1 s17'.2.2 x18' s23'.1 s23'.2.1 s23'.2.2 x24' (x12' == 0) N21' Q) ∧
             (x6' ≠ 0 →
             A15_1 s5'.1 s5'.2.1 s5'.2.2 s11'.1 s11'.2.1 s11'.2.2 s17'.1 s17'.2.1 s17'.2.2 x18' s23'.1 s23'.2.1 s23'.2.2 x24' false N21' Q))) :
    Cn Try.prog 15 #[] M Q := by
  refine Cn.of b15 d15 t15 ?_
  refine Rn.seq k15_0 (Rn.region k15_1 (fun call K => r15_0) (Rch.leaf (Rn.seq k15_2 (Rn.region k15_3 (fun call K => r15_1) (Rch.call H fun v1' N1' H => Rch.ex H fun s2' H => Rch.call H fun v3' N3' H => Rch.ex H fun cs4' H => Rch.ex H fun s5' H => Rch.ex H fun x6' H => Rch.leaf ?_)))))
  refine Rn.seq k15_4 (Rn.region k15_5 (fun call K => r15_2) (Rch.call H fun v7' N7' H => Rch.ex H fun s8' H => Rch.call H fun v9' N9' H => Rch.ex H fun cs10' H => Rch.ex H fun s11' H => Rch.ex H fun x12' H => Rch.leaf (Rn.seq k15_6 (Rn.region k15_7 (fun call K => r15_3) (Rch.call H fun v13' N13' H => ?_)))))
  refine Rch.ex H fun s14' H => Rch.call H fun v15' N15' H => Rch.ex H fun cs16' H => Rch.ex H fun s17' H => Rch.ex H fun x18' H => Rch.leaf (Rn.seq k15_8 (Rn.region k15_9 (fun call K => r15_4) (Rch.call H fun v19' N19' H => Rch.ex H fun s20' H => Rch.call H fun v21' N21' H => Rch.ex H fun cs22' H => ?_)))
  refine Rch.ex H fun s23' H => Rch.ex H fun x24' H => Rch.leaf (Rn.seq k15_10 (Rn.regionC k15_12 (Rg.step (d := 7) (j := 7) (fun call K => r15_5p0) rfl rfl ?_)))
  refine Rch.cB (fun h => ?_) (fun h => ?_)
  · replace H := H.1 (eq_of_beq h)
    refine Rch.rest ?_
    exact H _ _ _ _ _ _ _ _ _ _ _ _ _ _ _ _ _ _ _ _ _ _ _ _ _ _ _ _ _ _ _ _ _ _ _ _ _ _ _ _ _ _ _ _ _ _ _ _ _ _ _ _ _ _ _ _
  · replace H := H.2 (ne_of_beq_false h)
    refine Rch.rest ?_
    exact H _ _ _ _ _ _ _ _ _ _ _ _ _ _ _ _ _ _ _ _ _ _ _ _ _ _ _ _ _ _ _ _ _ _ _ _ _ _ _ _ _ _ _ _ _ _ _ _ _ _ _ _ _ _ _ _

theorem w15_1 {Ax1 : Option Addr} {lx1 cx1 : Nat} {Ax3 : Option Addr} {lx3 cx3 : Nat} {Ax5 : Option Addr} {lx5 cx5 : Nat} {x6 : Int} {Ax7 : Option Addr} {lx7 cx7 : Nat} {x8 : Int} {x35 : Bool} {M : Mem} {Q : Value → Mem → Prop} (H :
    ((x35 = true →
     A15_2 Ax1 lx1 cx1 Ax3 lx3 cx3 Ax5 lx5 cx5 Ax7 lx7 cx7 x8 (x6 == 0) M Q) ∧
     (x35 = false →
     A15_2 Ax1 lx1 cx1 Ax3 lx3 cx3 Ax5 lx5 cx5 Ax7 lx7 cx7 x8 false M Q))) :
    A15_1 Ax1 lx1 cx1 Ax3 lx3 cx3 Ax5 lx5 cx5 x6 Ax7 lx7 cx7 x8 x35 M Q := by
  intro g0 g2 g4 g9 g10 g11 g12 g13 g14 g15 g16 g17 g18 g19 g20 g21 g22 g23 g24 g25 g26 g27 g28 g29 g30 g31 g32 g33 g34 g36 g37 g38 g39 g40 g41 g42 g43 g44 g45 g46 g47 g48 g49 g50 g51 g52 g53 g54 g55 g56 g57 g58 g59 g60 g61 g62
  refine Rg.step (d := 4) (j := 11) (fun call K => r15_5p7) rfl rfl ?_
  refine Rch.cB (fun h => ?_) (fun h => ?_)
  · replace H := H.1 (h)
    refine Rch.rest ?_
    exact H _ _ _ _ _ _ _ _ _ _ _ _ _ _ _ _ _ _ _ _ _ _ _ _ _ _ _ _ _ _ _ _ _ _ _ _ _ _ _ _ _ _ _ _ _ _ _ _ _ _ _ _ _ _ _ _ _
  · replace H := H.2 (h)
    refine Rch.rest ?_
    exact H _ _ _ _ _ _ _ _ _ _ _ _ _ _ _ _ _ _ _ _ _ _ _ _ _ _ _ _ _ _ _ _ _ _ _ _ _ _ _ _ _ _ _ _ _ _ _ _ _ _ _ _ _ _ _ _ _

theorem w15_2 {Ax1 : Option Addr} {lx1 cx1 : Nat} {Ax3 : Option Addr} {lx3 cx3 : Nat} {Ax5 : Option Addr} {lx5 cx5 : Nat} {Ax7 : Option Addr} {lx7 cx7 : Nat} {x8 : Int} {x39 : Bool} {M : Mem} {Q : Value → Mem → Prop} (H :
    ((x39 = true →
     A15_3 Ax1 lx1 cx1 Ax3 lx3 cx3 Ax5 lx5 cx5 Ax7 lx7 cx7 (x8 == 0) M Q) ∧
     (x39 = false →
     A15_3 Ax1 lx1 cx1 Ax3 lx3 cx3 Ax5 lx5 cx5 Ax7 lx7 cx7 false M Q))) :
    A15_2 Ax1 lx1 cx1 Ax3 lx3 cx3 Ax5 lx5 cx5 Ax7 lx7 cx7 x8 x39 M Q := by
  intro g0 g2 g4 g6 g9 g10 g11 g12 g13 g14 g15 g16 g17 g18 g19 g20 g21 g22 g23 g24 g25 g26 g27 g28 g29 g30 g31 g32 g33 g34 g35 g36 g37 g38 g40 g41 g42 g43 g44 g45 g46 g47 g48 g49 g50 g51 g52 g53 g54 g55 g56 g57 g58 g59 g60 g61 g62
  refine Rg.step (d := 4) (j := 15) (fun call K => r15_5p11) rfl rfl ?_
  refine Rch.cB (fun h => ?_) (fun h => ?_)
  · replace H := H.1 (h)
    refine Rch.rest ?_
    exact H _ _ _ _ _ _ _ _ _ _ _ _ _ _ _ _ _ _ _ _ _ _ _ _ _ _ _ _ _ _ _ _ _ _ _ _ _ _ _ _ _ _ _ _ _ _ _ _ _ _ _ _ _ _ _ _ _ _
  · replace H := H.2 (h)
    refine Rch.rest ?_
    exact H _ _ _ _ _ _ _ _ _ _ _ _ _ _ _ _ _ _ _ _ _ _ _ _ _ _ _ _ _ _ _ _ _ _ _ _ _ _ _ _ _ _ _ _ _ _ _ _ _ _ _ _ _ _ _ _ _ _

theorem w15_3 {Ax1 : Option Addr} {lx1 cx1 : Nat} {Ax3 : Option Addr} {lx3 cx3 : Nat} {Ax5 : Option Addr} {lx5 cx5 : Nat} {Ax7 : Option Addr} {lx7 cx7 : Nat} {x43 : Bool} {M : Mem} {Q : Value → Mem → Prop} (H :
    ((x43 = true →
     Cn Try.prog 21 #[.int .i64 16, .int .i64 316, .int .i64 0] M fun v25' N25' =>
      ∃ s26', asS v25' = some s26' ∧
      Cn Try.prog 19 #[.slice Ax1 lx1 cx1, .slice s26'.1 (s26'.2.1) (s26'.2.2)] N25' fun v27' N27' =>
       ∃ b28', asB v27' = some b28' ∧
       A15_4 Ax3 lx3 cx3 Ax5 lx5 cx5 Ax7 lx7 cx7 b28' N27' Q) ∧
     (x43 = false →
     A15_4 Ax3 lx3 cx3 Ax5 lx5 cx5 Ax7 lx7 cx7 false M Q))) :
    A15_3 Ax1 lx1 cx1 Ax3 lx3 cx3 Ax5 lx5 cx5 Ax7 lx7 cx7 x43 M Q := by
  intro g0 g2 g4 g6 g8 g9 g10 g11 g12 g13 g14 g15 g16 g17 g18 g19 g20 g21 g22 g23 g24 g25 g26 g27 g28 g29 g30 g31 g32 g33 g34 g35 g36 g37 g38 g39 g40 g41 g42 g44 g45 g46 g47 g48 g49 g50 g51 g52 g53 g54 g55 g56 g57 g58 g59 g60 g61 g62
  refine Rg.step (d := 5) (j := 20) (fun call K => r15_5p15) rfl rfl ?_
  refine Rch.cB (fun h => ?_) (fun h => ?_)
  · replace H := H.1 (h)
    refine Rch.call H fun v25' N25' H => Rch.ex H fun s26' H => Rch.call H fun v27' N27' H => Rch.ex H fun b28' H => Rch.rest ?_
    exact H _ _ _ _ _ _ _ _ _ _ _ _ _ _ _ _ _ _ _ _ _ _ _ _ _ _ _ _ _ _ _ _ _ _ _ _ _ _ _ _ _ _ _ _ _ _ _ _ _ _ _ _ _ _ _ _ _ _ _
  · replace H := H.2 (h)
    refine Rch.rest ?_
    exact H _ _ _ _ _ _ _ _ _ _ _ _ _ _ _ _ _ _ _ _ _ _ _ _ _ _ _ _ _ _ _ _ _ _ _ _ _ _ _ _ _ _ _ _ _ _ _ _ _ _ _ _ _ _ _ _ _ _ _

theorem w15_4 {Ax3 : Option Addr} {lx3 cx3 : Nat} {Ax5 : Option Addr} {lx5 cx5 : Nat} {Ax7 : Option Addr} {lx7 cx7 : Nat} {x48 : Bool} {M : Mem} {Q : Value → Mem → Prop} (H :
    ((x48 = true →
     Cn Try.prog 21 #[.int .i64 16, .int .i64 10, .int .i64 10] M fun v29' N29' =>
      ∃ s30', asS v29' = some s30' ∧
      Cn Try.prog 19 #[.slice Ax3 lx3 cx3, .slice s30'.1 (s30'.2.1) (s30'.2.2)] N29' fun v31' N31' =>
       ∃ b32', asB v31' = some b32' ∧
       A15_5 Ax5 lx5 cx5 Ax7 lx7 cx7 b32' N31' Q) ∧
     (x48 = false →
     A15_5 Ax5 lx5 cx5 Ax7 lx7 cx7 false M Q))) :
    A15_4 Ax3 lx3 cx3 Ax5 lx5 cx5 Ax7 lx7 cx7 x48 M Q := by
  intro g0 g1 g2 g4 g6 g8 g9 g10 g11 g12 g13 g14 g15 g16 g17 g18 g19 g20 g21 g22 g23 g24 g25 g26 g27 g28 g29 g30 g31 g32 g33 g34 g35 g36 g37 g38 g39 g40 g41 g42 g43 g44 g45 g46 g47 g49 g50 g51 g52 g53 g54 g55 g56 g57 g58 g59 g60 g61 g62
  refine Rg.step (d := 5) (j := 25) (fun call K => r15_5p20) rfl rfl ?_
  refine Rch.cB (fun h => ?_) (fun h => ?_)
  · replace H := H.1 (h)
    refine Rch.call H fun v29' N29' H => Rch.ex H fun s30' H => Rch.call H fun v31' N31' H => Rch.ex H fun b32' H => Rch.rest ?_
    exact H _ _ _ _ _ _ _ _ _ _ _ _ _ _ _ _ _ _ _ _ _ _ _ _ _ _ _ _ _ _ _ _ _ _ _ _ _ _ _ _ _ _ _ _ _ _ _ _ _ _ _ _ _ _ _ _ _ _ _ _
  · replace H := H.2 (h)
    refine Rch.rest ?_
    exact H _ _ _ _ _ _ _ _ _ _ _ _ _ _ _ _ _ _ _ _ _ _ _ _ _ _ _ _ _ _ _ _ _ _ _ _ _ _ _ _ _ _ _ _ _ _ _ _ _ _ _ _ _ _ _ _ _ _ _ _

theorem w15_5 {Ax5 : Option Addr} {lx5 cx5 : Nat} {Ax7 : Option Addr} {lx7 cx7 : Nat} {x53 : Bool} {M : Mem} {Q : Value → Mem → Prop} (H :
    ((x53 = true →
     Cn Try.prog 21 #[.int .i64 16, .int .i64 1, .int .i64 1] M fun v33' N33' =>
      ∃ s34', asS v33' = some s34' ∧
      Cn Try.prog 19 #[.slice Ax5 lx5 cx5, .slice s34'.1 (s34'.2.1) (s34'.2.2)] N33' fun v35' N35' =>
       ∃ b36', asB v35' = some b36' ∧
       A15_6 Ax7 lx7 cx7 b36' N35' Q) ∧
     (x53 = false →
     A15_6 Ax7 lx7 cx7 false M Q))) :
    A15_5 Ax5 lx5 cx5 Ax7 lx7 cx7 x53 M Q := by
  intro g0 g1 g2 g3 g4 g6 g8 g9 g10 g11 g12 g13 g14 g15 g16 g17 g18 g19 g20 g21 g22 g23 g24 g25 g26 g27 g28 g29 g30 g31 g32 g33 g34 g35 g36 g37 g38 g39 g40 g41 g42 g43 g44 g45 g46 g47 g48 g49 g50 g51 g52 g54 g55 g56 g57 g58 g59 g60 g61 g62
  refine Rg.step (d := 5) (j := 30) (fun call K => r15_5p25) rfl rfl ?_
  refine Rch.cB (fun h => ?_) (fun h => ?_)
  · replace H := H.1 (h)
    refine Rch.call H fun v33' N33' H => Rch.ex H fun s34' H => Rch.call H fun v35' N35' H => Rch.ex H fun b36' H => Rch.rest ?_
    exact H _ _ _ _ _ _ _ _ _ _ _ _ _ _ _ _ _ _ _ _ _ _ _ _ _ _ _ _ _ _ _ _ _ _ _ _ _ _ _ _ _ _ _ _ _ _ _ _ _ _ _ _ _ _ _ _ _ _ _ _ _
  · replace H := H.2 (h)
    refine Rch.rest ?_
    exact H _ _ _ _ _ _ _ _ _ _ _ _ _ _ _ _ _ _ _ _ _ _ _ _ _ _ _ _ _ _ _ _ _ _ _ _ _ _ _ _ _ _ _ _ _ _ _ _ _ _ _ _ _ _ _ _ _ _ _ _ _

theorem w15_6 {Ax7 : Option Addr} {lx7 cx7 : Nat} {x58 : Bool} {M : Mem} {Q : Value → Mem → Prop} (H :
    ((x58 = true →
     Cn Try.prog 21 #[.int .i64 16, .int .i64 12, .int .i64 0] M fun v37' N37' =>
      ∃ s38', asS v37' = some s38' ∧
      Cn Try.prog 19 #[.slice Ax7 lx7 cx7, .slice s38'.1 (s38'.2.1) (s38'.2.2)] N37' fun v39' N39' =>
       ∃ b40', asB v39' = some b40' ∧
       Q (.bool b40') N39') ∧
     (x58 = false →
     Q (.bool false) M))) :
    A15_6 Ax7 lx7 cx7 x58 M Q := by
  intro g0 g1 g2 g3 g4 g5 g6 g8 g9 g10 g11 g12 g13 g14 g15 g16 g17 g18 g19 g20 g21 g22 g23 g24 g25 g26 g27 g28 g29 g30 g31 g32 g33 g34 g35 g36 g37 g38 g39 g40 g41 g42 g43 g44 g45 g46 g47 g48 g49 g50 g51 g52 g53 g54 g55 g56 g57 g59 g60 g61 g62
  refine Rg.step (d := 5) (j := 35) (fun call K => r15_5p30) rfl rfl ?_
  refine Rch.cB (fun h => ?_) (fun h => ?_)
  · replace H := H.1 (h)
    refine Rch.call H fun v37' N37' H => Rch.ex H fun s38' H => Rch.call H fun v39' N39' H => Rch.ex H fun b40' H => Rch.rest (Rg.done rfl ?_)
    exact Rn.ret k15_13 e15 H
  · replace H := H.2 (h)
    refine Rch.rest (Rg.done rfl ?_)
    exact Rn.ret k15_13 e15 H


/-! ### zoetrope/zoetropelaw08.first: function 21 -/
noncomputable abbrev P21 (p : List Nat) : Code := subC (codeOf Try.f21) p
noncomputable abbrev O21 (p : List Nat) : Array Oper := opsOf (subC (codeOf Try.f21) p)
theorem b21 : Try.prog.funcs[21]? = some Try.f21 ∧ (Orc.tab Try.prog).lookup 21 = none := ⟨by kernel_rfl, by kernel_rfl⟩
theorem d21 : Try.f21.body = some (P21 []) := by kernel_rfl
theorem t21 {x0 x1 x2 : Int} : #[.int .i64 x0,.int .i64 x1,.int .i64 x2] ++ Array.replicate (Try.f21.ntmps - (#[.int .i64 x0,.int .i64 x1,.int .i64 x2] : Array Value).size) undef = #[.int .i64 x0,.int .i64 x1,.int .i64 x2,undef,undef,undef,undef,undef,undef,undef,undef,undef,undef,undef,undef,undef,undef,undef,undef,undef,undef,undef,undef,undef] := by kernel_rfl
theorem k21_0 : P21 [] = .seq (P21 [0]) (P21 [1]) := by kernel_rfl
theorem k21_1 : P21 [0] = .region 0 (O21 [0]) false := by kernel_rfl
theorem r21_0 {M : Mem} {call : CallM} {K : Array Value → Mem → R} :
    opsK Try.prog (fun _ => call) (O21 [0]) (O21 [0]).toList 0 #[g0,g1,g2,g3,g4,g5,g6,g7,g8,g9,g10,g11,g12,g13,g14,g15,g16,g17,g18,g19,g20,g21,g22,g23] M K = K #[g0,g1,g2,g3,g4,g5,.slice none 0 0,g7,g8,g9,g10,g11,g12,g13,g14,g15,g16,g17,g18,g19,g20,g21,g22,g23] M := by kernel_rfl
theorem k21_2 : P21 [1] = .seq (P21 [1,0]) (P21 [1,1]) := by kernel_rfl
theorem k21_3 : P21 [1,0] = .region 1 (O21 [1,0]) false := by kernel_rfl
theorem r21_1 {x0 : Int} {M : Mem} {call : CallM} {K : Array Value → Mem → R} :
    opsK Try.prog (fun _ => call) (O21 [1,0]) (O21 [1,0]).toList 0 #[.int .i64 x0,g1,g2,g3,g4,g5,g6,g7,g8,g9,g10,g11,g12,g13,g14,g15,g16,g17,g18,g19,g20,g21,g22,g23] M K = (makeP Try.prog 22 (.int .i64 x0) (.int .i64 x0) M).bind fun r_1 => (asS r_1.1).bind fun s_2 => K #[.int .i64 x0,g1,g2,g3,g4,g5,g6,.slice s_2.1 (s_2.2.1) (s_2.2.2),g8,.int .i64 x0,.slice s_2.1 (s_2.2.1) (s_2.2.2),g11,g12,g13,g14,g15,g16,g17,g18,g19,g20,g21,g22,g23] r_1.2 := by kernel_rfl
theorem k21_4 : P21 [1,1] = .seq (P21 [1,1,0]) (P21 [1,1,1]) := by kernel_rfl
theorem k21_5 : P21 [1,1,0] = .seq (P21 [1,1,0,0]) (P21 [1,1,0,1]) := by kernel_rfl
theorem k21_6 : P21 [1,1,0,0] = .region 2 (O21 [1,1,0,0]) false := by kernel_rfl
theorem r21_2 {M : Mem} {call : CallM} {K : Array Value → Mem → R} :
    opsK Try.prog (fun _ => call) (O21 [1,1,0,0]) (O21 [1,1,0,0]).toList 0 #[g0,g1,g2,g3,g4,g5,g6,g7,g8,g9,g10,g11,g12,g13,g14,g15,g16,g17,g18,g19,g20,g21,g22,g23] M K = K #[g0,g1,g2,g3,g4,g5,g6,g7,.int .i64 0,g9,g10,g11,g12,g13,g14,g15,g16,g17,g18,g19,g20,g21,g22,g23] M := by kernel_rfl
theorem k21_7 : P21 [1,1,0,1] = .block 0 (P21 [1,1,0,1,0]) := by kernel_rfl
theorem k21_8 : P21 [1,1,0,1,0] = .loop (P21 [1,1,0,1,0,0]) := by kernel_rfl
theorem k21_9 : P21 [1,1,0,1,0,0] = .seq (P21 [1,1,0,1,0,0,0]) (P21 [1,1,0,1,0,0,1]) := by kernel_rfl
theorem k21_10 : P21 [1,1,0,1,0,0,0] = .seq (P21 [1,1,0,1,0,0,0,0]) (P21 [1,1,0,1,0,0,0,1]) := by kernel_rfl
theorem k21_11 : P21 [1,1,0,1,0,0,0,0] = .region 3 (O21 [1,1,0,1,0,0,0,0]) false := by kernel_rfl
theorem r21_3 {x0 x8 : Int} {M : Mem} {call : CallM} {K : Array Value → Mem → R} :
    opsK Try.prog (fun _ => call) (O21 [1,1,0,1,0,0,0,0]) (O21 [1,1,0,1,0,0,0,0]).toList 0 #[.int .i64 x0,g1,g2,g3,g4,g5,g6,g7,.int .i64 x8,g9,g10,g11,g12,g13,g14,g15,g16,g17,g18,g19,g20,g21,g22,g23] M K = K #[.int .i64 x0,g1,g2,g3,g4,g5,g6,g7,.int .i64 x8,g9,g10,.int .i64 x8,.int .i64 x0,.bool (decide (x8 < x0)),g14,g15,g16,g17,g18,g19,g20,g21,g22,g23] M := by kernel_rfl
theorem c21_12 : P21 [1,1,0,1,0,0,0,1] = .cond (.tmp 13) (P21 [1,1,0,1,0,0,0,1,0]) (P21 [1,1,0,1,0,0,0,1,1]) := by kernel_rfl
theorem k21_13 : P21 [1,1,0,1,0,0,0,1,0] = .skip := by kernel_rfl
theorem k21_14 : P21 [1,1,0,1,0,0,1] = .seq (P21 [1,1,0,1,0,0,1,0]) (P21 [1,1,0,1,0,0,1,1]) := by kernel_rfl
theorem k21_15 : P21 [1,1,0,1,0,0,1,0] = .block 1 (P21 [1,1,0,1,0,0,1,0,0]) := by kernel_rfl
theorem k21_16 : P21 [1,1,0,1,0,0,1,0,0] = .region 5 (O21 [1,1,0,1,0,0,1,0,0]) false := by kernel_rfl
theorem r21_5 {x2 : Int} {Ax7 : Option Addr} {lx7 cx7 : Nat} {x8 : Int} {M : Mem} {call : CallM} {K : Array Value → Mem → R} :
    opsK Try.prog (fun _ => call) (O21 [1,1,0,1,0,0,1,0,0]) (O21 [1,1,0,1,0,0,1,0,0]).toList 0 #[g0,g1,.int .i64 x2,g3,g4,g5,g6,.slice Ax7 lx7 cx7,.int .i64 x8,g9,g10,g11,g12,g13,g14,g15,g16,g17,g18,g19,g20,g21,g22,g23] M K = (idxA Ax7 lx7 1 x8).bind fun a_1 => (M.put a_1.block a_1.off (.int .i64 x2)).bind fun M_2 => K #[g0,g1,.int .i64 x2,g3,g4,g5,g6,.slice Ax7 lx7 cx7,.int .i64 x8,g9,g10,g11,g12,g13,g14,g15,.slice Ax7 lx7 cx7,.int .i64 x8,.int .i64 x2,.pointer (some a_1),g20,g21,g22,g23] M_2 := by kernel_rfl
theorem k21_17 : P21 [1,1,0,1,0,0,1,1] = .region 4 (O21 [1,1,0,1,0,0,1,1]) false := by kernel_rfl
theorem r21_4 {x8 : Int} {M : Mem} {call : CallM} {K : Array Value → Mem → R} :
    opsK Try.prog (fun _ => call) (O21 [1,1,0,1,0,0,1,1]) (O21 [1,1,0,1,0,0,1,1]).toList 0 #[g0,g1,g2,g3,g4,g5,g6,g7,.int .i64 x8,g9,g10,g11,g12,g13,g14,g15,g16,g17,g18,g19,g20,g21,g22,g23] M K = K #[g0,g1,g2,g3,g4,g5,g6,g7,.int .i64 (IntKind.i64.wrap (x8 + 1)),g9,g10,g11,g12,g13,.int .i64 x8,.int .i64 (IntKind.i64.wrap (x8 + 1)),g16,g17,g18,g19,g20,g21,g22,g23] M := by kernel_rfl
theorem k21_18 : P21 [1,1,0,1,0,0,0,1,1] = .exit 0 := by kernel_rfl
theorem k21_19 : P21 [1,1,1] = .seq (P21 [1,1,1,0]) (P21 [1,1,1,1]) := by kernel_rfl
theorem k21_20 : P21 [1,1,1,0] = .region 6 (O21 [1,1,1,0]) false := by kernel_rfl
theorem r21_6 {x1 : Int} {Ax7 : Option Addr} {lx7 cx7 : Nat} {M : Mem} {call : CallM} {K : Array Value → Mem → R} :
    opsK Try.prog (fun _ => call) (O21 [1,1,1,0]) (O21 [1,1,1,0]).toList 0 #[g0,.int .i64 x1,g2,g3,g4,g5,g6,.slice Ax7 lx7 cx7,g8,g9,g10,g11,g12,g13,g14,g15,g16,g17,g18,g19,g20,g21,g22,g23] M K = (idxA Ax7 lx7 1 0).bind fun a_1 => (M.put a_1.block a_1.off (.int .i64 x1)).bind fun M_2 => K #[g0,.int .i64 x1,g2,g3,g4,g5,g6,.slice Ax7 lx7 cx7,g8,g9,g10,g11,g12,g13,g14,g15,g16,g17,g18,g19,.slice Ax7 lx7 cx7,.int .i64 x1,.pointer (some a_1),g23] M_2 := by kernel_rfl
theorem k21_21 : P21 [1,1,1,1] = .seq (P21 [1,1,1,1,0]) (P21 [1,1,1,1,1]) := by kernel_rfl
theorem k21_22 : P21 [1,1,1,1,0] = .region 7 (O21 [1,1,1,1,0]) false := by kernel_rfl
theorem r21_7 {Ax7 : Option Addr} {lx7 cx7 : Nat} {M : Mem} {call : CallM} {K : Array Value → Mem → R} :
    opsK Try.prog (fun _ => call) (O21 [1,1,1,1,0]) (O21 [1,1,1,1,0]).toList 0 #[g0,g1,g2,g3,g4,g5,g6,.slice Ax7 lx7 cx7,g8,g9,g10,g11,g12,g13,g14,g15,g16,g17,g18,g19,g20,g21,g22,g23] M K = K #[g0,g1,g2,g3,g4,g5,.slice Ax7 lx7 cx7,.slice Ax7 lx7 cx7,g8,g9,g10,g11,g12,g13,g14,g15,g16,g17,g18,g19,g20,g21,g22,.slice Ax7 lx7 cx7] M := by kernel_rfl
theorem k21_23 : P21 [1,1,1,1,1] = .ret := by kernel_rfl
theorem e21 {M : Mem} : finish Try.prog Try.f21 #[g0,g1,g2,g3,g4,g5,g6,g7,g8,g9,g10,g11,g12,g13,g14,g15,g16,g17,g18,g19,g20,g21,g22,g23] M = some (g6, M) := by kernel_rfl
noncomputable def S21_1 : List Item := [.code (P21 [1,1,0,1,0,0]), .inLoop (P21 [1,1,0,1,0,0]), .inBlock 0, .code (P21 [1,1,1])]
def A21_1 (x0 x1 x2 : Int) (Ax7 : Option Addr) (lx7 cx7 : Nat) (x8 : Int) (M : Mem) (Q : Value → Mem → Prop) : Prop := ∀ (g3 g4 g5 g6 g9 g10 g11 g12 g13 g14 g15 g16 g17 g18 g19 g20 g21 g22 g23 : Value), Rn Try.prog Try.f21 S21_1 #[.int .i64 x0, .int .i64 x1, .int .i64 x2, g3, g4, g5, g6, .slice Ax7 lx7 cx7, .int .i64 x8, g9, g10, g11, g12, g13, g14, g15, g16, g17, g18, g19, g20, g21, g22, g23] M Q
theorem w21_0 {x0 x1 x2 : Int} {M : Mem} {Q : Value → Mem → Prop} (H :
    ∃ r1', makeP Try.prog 22 (.int .i64 x0) (.int .i64 x0) M = some r1' ∧
    ∃ s2', asS r1'.1 = some s2' ∧
    A21_1 x0 x1 x2 s2'.1 s2'.2.1 s2'.2.2 0 r1'.2 Q) :
    Cn Try.prog 21 #[.int .i64 x0, .int .i64 x1, .int .i64 x2] M Q := by
  refine Cn.of b21 d21 t21 ?_
  refine Rn.seq k21_0 (Rn.region k21_1 (fun call K => r21_0) (Rch.leaf (Rn.seq k21_2 (Rn.region k21_3 (fun call K => r21_1) (Rch.ex H fun r1' H => Rch.ex H fun s2' H => Rch.leaf (Rn.seq k21_4 (Rn.seq k21_5 (Rn.region k21_6 (fun call K => r21_2) (Rch.leaf ?_)))))))))
  refine Rn.block k21_7 (Rn.loop k21_8 ?_)
  exact H _ _ _ _ _ _ _ _ _ _ _ _ _ _ _ _ _ _ _

theorem w21_1 {x0 x1 x2 : Int} {Ax7 : Option Addr} {lx7 cx7 : Nat} {x8 : Int} {M : Mem} {Q : Value → Mem → Prop} (H :
    ((x8 < x0 →
     ∃ a3', idxA Ax7 lx7 1 x8 = some a3' ∧
     ∃ M4', M.put a3'.block a3'.off (.int .i64 x2) = some M4' ∧
     A21_1 x0 x1 x2 Ax7 lx7 cx7 (IntKind.i64.wrap (x8 + 1)) M4' Q) ∧
     (¬ (x8 < x0) →
     ∃ a5', idxA Ax7 lx7 1 0 = some a5' ∧
     ∃ M6', M.put a5'.block a5'.off (.int .i64 x1) = some M6' ∧
     Q (.slice Ax7 lx7 cx7) M6'))) :
    A21_1 x0 x1 x2 Ax7 lx7 cx7 x8 M Q := by
  intro g3 g4 g5 g6 g9 g10 g11 g12 g13 g14 g15 g16 g17 g18 g19 g20 g21 g22 g23
  refine Rn.seq k21_9 (Rn.seq k21_10 (Rn.region k21_11 (fun call K => r21_3) (Rch.leaf ?_)))
  refine Rn.cnd (v := decide (x8 < x0)) ⟨c21_12, rfl, by kernel_rfl⟩ (fun h => ?_) (fun h => ?_)
  · replace H := H.1 (of_decide_eq_true h)
    refine Rn.skip k21_13 (Rn.seq k21_14 (Rn.block k21_15 (Rn.region k21_16 (fun call K => r21_5) (Rch.ex H fun a3' H => Rch.ex H fun M4' H => Rch.leaf (Rn.blk (Rn.region k21_17 (fun call K => r21_4) (Rch.leaf (Rn.lp ?_))))))))
    exact H _ _ _ _ _ _ _ _ _ _ _ _ _ _ _ _ _ _ _
  · replace H := H.2 (of_decide_eq_false h)
    refine Rn.exit k21_18 rfl (Rn.seq k21_19 (Rn.region k21_20 (fun call K => r21_6) (Rch.ex H fun a5' H => Rch.ex H fun M6' H => Rch.leaf (Rn.seq k21_21 (Rn.region k21_22 (fun call K => r21_7) (Rch.leaf ?_))))))
    exact Rn.ret k21_23 e21 H


end Go.Zt

