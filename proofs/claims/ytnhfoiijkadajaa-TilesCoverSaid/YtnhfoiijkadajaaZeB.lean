/- The functions' walks: for each function and each loop a rule of what it comes to. Printed by zw.py. -/
import Derived.Test.YtnhfoiijkadajaaProg
import Derived.Test.YtnhfoiijkadajaaZeA
set_option linter.unusedVariables false
set_option maxRecDepth 100000
namespace Go.Zt
open Go Go.Sim Go.Proofs

variable {g0 g1 g2 g3 g4 g5 g6 g7 g8 g9 g10 g11 g12 g13 g14 g15 g16 g17 g18 g19 g20 g21 g22 g23 g24 g25 g26 g27 g28 g29 g30 g31 g32 g33 g34 g35 g36 g37 g38 g39 g40 g41 g42 g43 g44 g45 g46 g47 g48 g49 g50 g51 g52 g53 g54 g55 g56 g57 g58 g59 g60 g61 g62 g63 g64 g65 g66 g67 g68 g69 g70 g71 g72 g73 g74 g75 g76 g77 g78 g79 g80 g81 g82 g83 g84 g85 g86 g87 g88 g89 g90 g91 g92 g93 g94 g95 g96 g97 g98 g99 g100 g101 g102 g103 g104 g105 g106 g107 g108 g109 g110 g111 g112 g113 g114 g115 g116 g117 g118 g119 g120 g121 g122 g123 g124 g125 g126 g127 : Value}
/-! ### zoetrope/tiles.within[int]: function 35 -/
noncomputable abbrev P35 (p : List Nat) : Code := subC (codeOf Try.f35) p
noncomputable abbrev O35 (p : List Nat) : Array Oper := opsOf (subC (codeOf Try.f35) p)
theorem b35 : Try.prog.funcs[35]? = some Try.f35 ∧ (Orc.tab Try.prog).lookup 35 = none := ⟨by kernel_rfl, by kernel_rfl⟩
theorem d35 : Try.f35.body = some (P35 []) := by kernel_rfl
theorem t35 {x0 x1 x2 : Int} : #[.int .i64 x0,.int .i64 x1,.int .i64 x2] ++ Array.replicate (Try.f35.ntmps - (#[.int .i64 x0,.int .i64 x1,.int .i64 x2] : Array Value).size) undef = #[.int .i64 x0,.int .i64 x1,.int .i64 x2,undef,undef,undef,undef,undef,undef,undef,undef,undef,undef,undef,undef] := by kernel_rfl
theorem k35_0 : P35 [] = .seq (P35 [0]) (P35 [1]) := by kernel_rfl
theorem k35_1 : P35 [0] = .region 0 (O35 [0]) false := by kernel_rfl
theorem r35_0 {M : Mem} {call : CallM} {K : Array Value → Mem → R} :
    opsK Try.prog (fun _ => call) (O35 [0]) (O35 [0]).toList 0 #[g0,g1,g2,g3,g4,g5,g6,g7,g8,g9,g10,g11,g12,g13,g14] M K = K #[g0,g1,g2,g3,g4,g5,.bool false,g7,g8,g9,g10,g11,g12,g13,g14] M := by kernel_rfl
theorem k35_2 : P35 [1] = .seq (P35 [1,0]) (P35 [1,1]) := by kernel_rfl
theorem k35_3 : P35 [1,0] = .region 1 (O35 [1,0]) false := by kernel_rfl
theorem r35_1 {x0 x1 x2 : Int} {M : Mem} {call : CallM} {K : Array Value → Mem → R} :
    opsK Try.prog (fun _ => call) (O35 [1,0]) (O35 [1,0]).toList 0 #[.int .i64 x0,.int .i64 x1,.int .i64 x2,g3,g4,g5,g6,g7,g8,g9,g10,g11,g12,g13,g14] M K = withK (fun w6 w10 w11 w12 w13 w14 M => K #[.int .i64 x0,.int .i64 x1,.int .i64 x2,g3,g4,g5,w6,.int .i64 x0,.int .i64 x1,.bool (decide (x0 ≥ x1)),w10,w11,w12,w13,w14] M) fun k => cond (decide (x0 ≥ x1)) (k (.bool (decide (x0 ≤ x2))) (.bool true) (.int .i64 x0) (.int .i64 x2) (.bool (decide (x0 ≤ x2))) (.bool (decide (x0 ≤ x2))) M) (k (.bool false) (.bool false) undef undef undef (.bool false) M) := by kernel_rfl
theorem k35_4 : P35 [1,1] = .ret := by kernel_rfl
theorem e35 {M : Mem} : finish Try.prog Try.f35 #[g0,g1,g2,g3,g4,g5,g6,g7,g8,g9,g10,g11,g12,g13,g14] M = some (g6, M) := by kernel_rfl
theorem w35_0 {x0 x1 x2 : Int} {M : Mem} {Q : Value → Mem → Prop} (H :
    ((x0 ≥ x1 →
     Q (.bool (decide (x0 ≤ x2))) M) ∧
     (¬ (x0 ≥ x1) →
     Q (.bool false) M))) :
    Cn Try.prog 35 #[.int .i64 x0, .int .i64 x1, .int .i64 x2] M Q := by
  refine Cn.of b35 d35 t35 ?_
  refine Rn.seq k35_0 (Rn.region k35_1 (fun call K => r35_0) (Rch.leaf (Rn.seq k35_2 (Rn.region k35_3 (fun call K => r35_1) ?_))))
  refine Rch.cB (fun h => ?_) (fun h => ?_)
  · replace H := H.1 (of_decide_eq_true h)
    refine Rch.leaf ?_
    exact Rn.ret k35_4 e35 H
  · replace H := H.2 (of_decide_eq_false h)
    refine Rch.leaf ?_
    exact Rn.ret k35_4 e35 H


/-! ### zoetrope/tiles.squares: function 50 -/
noncomputable abbrev P50 (p : List Nat) : Code := subC (codeOf Try.f50) p
noncomputable abbrev O50 (p : List Nat) : Array Oper := opsOf (subC (codeOf Try.f50) p)
theorem b50 : Try.prog.funcs[50]? = some Try.f50 ∧ (Orc.tab Try.prog).lookup 50 = none := ⟨by kernel_rfl, by kernel_rfl⟩
theorem d50 : Try.f50.body = some (P50 []) := by kernel_rfl
theorem t50 {x0 : Int} : #[.int .i64 x0] ++ Array.replicate (Try.f50.ntmps - (#[.int .i64 x0] : Array Value).size) undef = #[.int .i64 x0,undef,undef,undef,undef,undef,undef] := by kernel_rfl
theorem k50_0 : P50 [] = .seq (P50 [0]) (P50 [1]) := by kernel_rfl
theorem k50_1 : P50 [0] = .region 0 (O50 [0]) false := by kernel_rfl
theorem r50_0 {M : Mem} {call : CallM} {K : Array Value → Mem → R} :
    opsK Try.prog (fun _ => call) (O50 [0]) (O50 [0]).toList 0 #[g0,g1,g2,g3,g4,g5,g6] M K = K #[g0,g1,.int .i64 0,g3,g4,g5,g6] M := by kernel_rfl
theorem k50_2 : P50 [1] = .seq (P50 [1,0]) (P50 [1,1]) := by kernel_rfl
theorem k50_3 : P50 [1,0] = .region 1 (O50 [1,0]) false := by kernel_rfl
theorem r50_1 {x0 : Int} {M : Mem} {call : CallM} {K : Array Value → Mem → R} :
    opsK Try.prog (fun _ => call) (O50 [1,0]) (O50 [1,0]).toList 0 #[.int .i64 x0,g1,g2,g3,g4,g5,g6] M K = K #[.int .i64 x0,g1,.int .i64 (IntKind.i64.wrap ((IntKind.i64.wrap ((IntKind.i64.wrap (x0 + 64)) - 1)).tdiv 64)),.int .i64 x0,.int .i64 (IntKind.i64.wrap (x0 + 64)),.int .i64 (IntKind.i64.wrap ((IntKind.i64.wrap (x0 + 64)) - 1)),.int .i64 (IntKind.i64.wrap ((IntKind.i64.wrap ((IntKind.i64.wrap (x0 + 64)) - 1)).tdiv 64))] M := by kernel_rfl
theorem k50_4 : P50 [1,1] = .ret := by kernel_rfl
theorem e50 {M : Mem} : finish Try.prog Try.f50 #[g0,g1,g2,g3,g4,g5,g6] M = some (g2, M) := by kernel_rfl
theorem w50_0 {x0 : Int} {M : Mem} {Q : Value → Mem → Prop} (H :
    Q (.int .i64 (IntKind.i64.wrap ((IntKind.i64.wrap ((IntKind.i64.wrap (x0 + 64)) - 1)).tdiv 64))) M) :
    Cn Try.prog 50 #[.int .i64 x0] M Q := by
  refine Cn.of b50 d50 t50 ?_
  refine Rn.seq k50_0 (Rn.region k50_1 (fun call K => r50_0) (Rch.leaf (Rn.seq k50_2 (Rn.region k50_3 (fun call K => r50_1) (Rch.leaf ?_)))))
  exact Rn.ret k50_4 e50 H


/-! ### zoetrope/tiles.side: function 31 -/
noncomputable abbrev P31 (p : List Nat) : Code := subC (codeOf Try.f31) p
noncomputable abbrev O31 (p : List Nat) : Array Oper := opsOf (subC (codeOf Try.f31) p)
theorem b31 : Try.prog.funcs[31]? = some Try.f31 ∧ (Orc.tab Try.prog).lookup 31 = none := ⟨by kernel_rfl, by kernel_rfl⟩
theorem d31 : Try.f31.body = some (P31 []) := by kernel_rfl
theorem t31 {x0 x1 : Int} : #[.int .i64 x0,.int .i64 x1] ++ Array.replicate (Try.f31.ntmps - (#[.int .i64 x0,.int .i64 x1] : Array Value).size) undef = #[.int .i64 x0,.int .i64 x1,undef,undef,undef,undef,undef,undef,undef,undef,undef,undef,undef,undef,undef,undef,undef,undef,undef,undef,undef,undef,undef,undef,undef,undef,undef,undef,undef,undef,undef,undef,undef,undef,undef,undef,undef,undef,undef,undef,undef,undef,undef,undef,undef,undef,undef,undef,undef,undef,undef,undef,undef,undef] := by kernel_rfl
theorem k31_0 : P31 [] = .seq (P31 [0]) (P31 [1]) := by kernel_rfl
theorem k31_1 : P31 [0] = .region 0 (O31 [0]) false := by kernel_rfl
theorem r31_0 {M : Mem} {call : CallM} {K : Array Value → Mem → R} :
    opsK Try.prog (fun _ => call) (O31 [0]) (O31 [0]).toList 0 #[g0,g1,g2,g3,g4,g5,g6,g7,g8,g9,g10,g11,g12,g13,g14,g15,g16,g17,g18,g19,g20,g21,g22,g23,g24,g25,g26,g27,g28,g29,g30,g31,g32,g33,g34,g35,g36,g37,g38,g39,g40,g41,g42,g43,g44,g45,g46,g47,g48,g49,g50,g51,g52,g53] M K = K #[g0,g1,g2,g3,.slice none 0 0,.bool false,g6,g7,g8,g9,g10,g11,g12,g13,g14,g15,g16,g17,g18,g19,g20,g21,g22,g23,g24,g25,g26,g27,g28,g29,g30,g31,g32,g33,g34,g35,g36,g37,g38,g39,g40,g41,g42,g43,g44,g45,g46,g47,g48,g49,g50,g51,g52,g53] M := by kernel_rfl
theorem k31_2 : P31 [1] = .seq (P31 [1,0]) (P31 [1,1]) := by kernel_rfl
theorem k31_3 : P31 [1,0] = .seq (P31 [1,0,0]) (P31 [1,0,1]) := by kernel_rfl
theorem k31_5 : P31 [1,0,0] = .region 1 (O31 [1,0,0]) true ∧ (!true || drawOk (O31 [1,0,0])) = true := ⟨by kernel_rfl, by kernel_rfl⟩
theorem r31_1p0 {x0 : Int} {M : Mem} {call : CallM} {K : Array Value → Mem → R} :
    segK Try.prog true call (O31 [1,0,0]) 0 9 #[.int .i64 x0,g1,g2,g3,g4,g5,g6,g7,g8,g9,g10,g11,g12,g13,g14,g15,g16,g17,g18,g19,g20,g21,g22,g23,g24,g25,g26,g27,g28,g29,g30,g31,g32,g33,g34,g35,g36,g37,g38,g39,g40,g41,g42,g43,g44,g45,g46,g47,g48,g49,g50,g51,g52,g53] M K = withK (fun w10 w11 w12 w13 w14 w15 w16 w17 M => K #[.int .i64 x0,g1,g2,g3,g4,g5,g6,g7,g8,.int .i64 x0,w10,w11,w12,w13,w14,w15,w16,w17,g18,g19,g20,g21,g22,g23,g24,g25,g26,g27,g28,g29,g30,g31,g32,g33,g34,g35,g36,g37,g38,g39,g40,g41,g42,g43,g44,g45,g46,g47,g48,g49,g50,g51,g52,g53] M) fun k => (call 35 #[.int .i64 x0, .int .i64 16, .int .i64 256] M).bind fun r_1 => (asB r_1.1).bind fun b_2 => cond (!b_2) (k (.bool b_2) (.bool (!b_2)) (.bool true) undef undef undef (.bool true) (.bool true) r_1.2) (k (.bool b_2) (.bool (!b_2)) (.bool false) (.int .i64 x0) (.int .i64 (x0.tmod 2)) (.bool ((x0.tmod 2) != 0)) (.bool ((x0.tmod 2) != 0)) (.bool ((x0.tmod 2) != 0)) r_1.2) := by kernel_rfl
theorem r31_1p9 {x1 : Int} {x17 : Bool} {M : Mem} {call : CallM} {K : Array Value → Mem → R} :
    segK Try.prog true call (O31 [1,0,0]) 9 5 #[g0,.int .i64 x1,g2,g3,g4,g5,g6,g7,g8,g9,g10,g11,g12,g13,g14,g15,g16,.bool x17,g18,g19,g20,g21,g22,g23,g24,g25,g26,g27,g28,g29,g30,g31,g32,g33,g34,g35,g36,g37,g38,g39,g40,g41,g42,g43,g44,g45,g46,g47,g48,g49,g50,g51,g52,g53] M K = withK (fun w17 w18 w19 w20 w21 w22 M => K #[g0,.int .i64 x1,g2,g3,g4,g5,g6,g7,g8,g9,g10,g11,g12,g13,g14,g15,g16,w17,w18,w19,w20,w21,w22,g23,g24,g25,g26,g27,g28,g29,g30,g31,g32,g33,g34,g35,g36,g37,g38,g39,g40,g41,g42,g43,g44,g45,g46,g47,g48,g49,g50,g51,g52,g53] M) fun k => cond x17 (k (.bool true) undef undef undef (.bool true) (.bool true) M) ((call 35 #[.int .i64 x1, .int .i64 0, .int .i64 2] M).bind fun r_1 => (asB r_1.1).bind fun b_2 => k (.bool false) (.int .i64 x1) (.bool b_2) (.bool (!b_2)) (.bool (!b_2)) (.bool (!b_2)) r_1.2) := by kernel_rfl
theorem r31_1p14 {x0 x1 : Int} {x22 : Bool} {M : Mem} {call : CallM} {K : Array Value → Mem → R} :
    segK Try.prog true call (O31 [1,0,0]) 14 6 #[.int .i64 x0,.int .i64 x1,g2,g3,g4,g5,g6,g7,g8,g9,g10,g11,g12,g13,g14,g15,g16,g17,g18,g19,g20,g21,.bool x22,g23,g24,g25,g26,g27,g28,g29,g30,g31,g32,g33,g34,g35,g36,g37,g38,g39,g40,g41,g42,g43,g44,g45,g46,g47,g48,g49,g50,g51,g52,g53] M K = withK (fun w22 w23 w24 w25 w26 w27 w28 M => K #[.int .i64 x0,.int .i64 x1,g2,g3,g4,g5,g6,g7,g8,g9,g10,g11,g12,g13,g14,g15,g16,g17,g18,g19,g20,g21,w22,w23,w24,w25,w26,w27,w28,g29,g30,g31,g32,g33,g34,g35,g36,g37,g38,g39,g40,g41,g42,g43,g44,g45,g46,g47,g48,g49,g50,g51,g52,g53] M) fun k => cond x22 (k (.bool true) undef undef undef undef undef (.bool true) M) ((binV Try.prog .shl 3 3 (.int .i64 1) (.int .i64 x1)).bind fun v_1 => (asI .i64 v_1).bind fun x_2 => (call 50 #[.int .i64 x0] M).bind fun r_3 => (asI .i64 r_3.1).bind fun x_4 => k (.bool false) (.int .i64 x1) (.int .i64 x_2) (.int .i64 x0) (.int .i64 x_4) (.bool (decide (x_2 > x_4))) (.bool (decide (x_2 > x_4))) r_3.2) := by kernel_rfl
theorem c31_6 : P31 [1,0,1] = .cond (.tmp 28) (P31 [1,0,1,0]) (P31 [1,0,1,1]) := by kernel_rfl
theorem k31_7 : P31 [1,0,1,0] = .seq (P31 [1,0,1,0,0]) (P31 [1,0,1,0,1]) := by kernel_rfl
theorem k31_8 : P31 [1,0,1,0,0] = .region 2 (O31 [1,0,1,0,0]) false := by kernel_rfl
theorem r31_2 {M : Mem} {call : CallM} {K : Array Value → Mem → R} :
    opsK Try.prog (fun _ => call) (O31 [1,0,1,0,0]) (O31 [1,0,1,0,0]).toList 0 #[g0,g1,g2,g3,g4,g5,g6,g7,g8,g9,g10,g11,g12,g13,g14,g15,g16,g17,g18,g19,g20,g21,g22,g23,g24,g25,g26,g27,g28,g29,g30,g31,g32,g33,g34,g35,g36,g37,g38,g39,g40,g41,g42,g43,g44,g45,g46,g47,g48,g49,g50,g51,g52,g53] M K = K #[g0,g1,g2,g3,.slice none 0 0,.bool false,g6,g7,g8,g9,g10,g11,g12,g13,g14,g15,g16,g17,g18,g19,g20,g21,g22,g23,g24,g25,g26,g27,g28,g29,g30,g31,g32,g33,g34,g35,g36,g37,g38,g39,g40,g41,g42,g43,g44,g45,g46,g47,g48,g49,g50,g51,g52,g53] M := by kernel_rfl
theorem k31_9 : P31 [1,0,1,0,1] = .ret := by kernel_rfl
theorem e31 {M : Mem} : finish Try.prog Try.f31 #[g0,g1,g2,g3,g4,g5,g6,g7,g8,g9,g10,g11,g12,g13,g14,g15,g16,g17,g18,g19,g20,g21,g22,g23,g24,g25,g26,g27,g28,g29,g30,g31,g32,g33,g34,g35,g36,g37,g38,g39,g40,g41,g42,g43,g44,g45,g46,g47,g48,g49,g50,g51,g52,g53] M = some (.tuple #[g4, g5], M) := by kernel_rfl
theorem k31_11 : P31 [1,0,1,1] = .skip := by kernel_rfl
theorem k31_12 : P31 [1,1] = .seq (P31 [1,1,0]) (P31 [1,1,1]) := by kernel_rfl
theorem k31_13 : P31 [1,1,0] = .region 3 (O31 [1,1,0]) false := by kernel_rfl
theorem r31_3 {x0 : Int} {M : Mem} {call : CallM} {K : Array Value → Mem → R} :
    opsK Try.prog (fun _ => call) (O31 [1,1,0]) (O31 [1,1,0]).toList 0 #[.int .i64 x0,g1,g2,g3,g4,g5,g6,g7,g8,g9,g10,g11,g12,g13,g14,g15,g16,g17,g18,g19,g20,g21,g22,g23,g24,g25,g26,g27,g28,g29,g30,g31,g32,g33,g34,g35,g36,g37,g38,g39,g40,g41,g42,g43,g44,g45,g46,g47,g48,g49,g50,g51,g52,g53] M K = K #[.int .i64 x0,g1,g2,g3,g4,g5,.int .i64 (IntKind.i64.wrap ((IntKind.i64.wrap ((IntKind.i64.wrap ((IntKind.i64.wrap (x0 + 8)) - 1)).tdiv 8)) * 8)),g7,g8,g9,g10,g11,g12,g13,g14,g15,g16,g17,g18,g19,g20,g21,g22,g23,g24,g25,g26,g27,g28,.int .i64 x0,.int .i64 (IntKind.i64.wrap (x0 + 8)),.int .i64 (IntKind.i64.wrap ((IntKind.i64.wrap (x0 + 8)) - 1)),.int .i64 (IntKind.i64.wrap ((IntKind.i64.wrap ((IntKind.i64.wrap (x0 + 8)) - 1)).tdiv 8)),.int .i64 (IntKind.i64.wrap ((IntKind.i64.wrap ((IntKind.i64.wrap ((IntKind.i64.wrap (x0 + 8)) - 1)).tdiv 8)) * 8)),g34,g35,g36,g37,g38,g39,g40,g41,g42,g43,g44,g45,g46,g47,g48,g49,g50,g51,g52,g53] M := by kernel_rfl
theorem k31_14 : P31 [1,1,1] = .seq (P31 [1,1,1,0]) (P31 [1,1,1,1]) := by kernel_rfl
theorem k31_15 : P31 [1,1,1,0] = .region 4 (O31 [1,1,1,0]) false := by kernel_rfl
theorem r31_4 {M : Mem} {call : CallM} {K : Array Value → Mem → R} :
    opsK Try.prog (fun _ => call) (O31 [1,1,1,0]) (O31 [1,1,1,0]).toList 0 #[g0,g1,g2,g3,g4,g5,g6,g7,g8,g9,g10,g11,g12,g13,g14,g15,g16,g17,g18,g19,g20,g21,g22,g23,g24,g25,g26,g27,g28,g29,g30,g31,g32,g33,g34,g35,g36,g37,g38,g39,g40,g41,g42,g43,g44,g45,g46,g47,g48,g49,g50,g51,g52,g53] M K = K #[g0,g1,g2,g3,g4,g5,g6,.slice none 0 0,g8,g9,g10,g11,g12,g13,g14,g15,g16,g17,g18,g19,g20,g21,g22,g23,g24,g25,g26,g27,g28,g29,g30,g31,g32,g33,g34,g35,g36,g37,g38,g39,g40,g41,g42,g43,g44,g45,g46,g47,g48,g49,g50,g51,g52,g53] M := by kernel_rfl
theorem k31_16 : P31 [1,1,1,1] = .seq (P31 [1,1,1,1,0]) (P31 [1,1,1,1,1]) := by kernel_rfl
theorem k31_17 : P31 [1,1,1,1,0] = .seq (P31 [1,1,1,1,0,0]) (P31 [1,1,1,1,0,1]) := by kernel_rfl
theorem k31_18 : P31 [1,1,1,1,0,0] = .region 5 (O31 [1,1,1,1,0,0]) false := by kernel_rfl
theorem r31_5 {x1 : Int} {M : Mem} {call : CallM} {K : Array Value → Mem → R} :
    opsK Try.prog (fun _ => call) (O31 [1,1,1,1,0,0]) (O31 [1,1,1,1,0,0]).toList 0 #[g0,.int .i64 x1,g2,g3,g4,g5,g6,g7,g8,g9,g10,g11,g12,g13,g14,g15,g16,g17,g18,g19,g20,g21,g22,g23,g24,g25,g26,g27,g28,g29,g30,g31,g32,g33,g34,g35,g36,g37,g38,g39,g40,g41,g42,g43,g44,g45,g46,g47,g48,g49,g50,g51,g52,g53] M K = (binV Try.prog .shl 3 3 (.int .i64 1) (.int .i64 x1)).bind fun v_1 => (asI .i64 v_1).bind fun x_2 => K #[g0,.int .i64 x1,g2,g3,g4,g5,g6,g7,g8,g9,g10,g11,g12,g13,g14,g15,g16,g17,g18,g19,g20,g21,g22,g23,g24,g25,g26,g27,g28,g29,g30,g31,g32,g33,.int .i64 x1,.int .i64 x_2,.int .i64 (IntKind.i64.wrap (x_2 + 1)),.int .i64 0,g38,g39,g40,g41,g42,g43,g44,g45,g46,g47,g48,g49,g50,g51,g52,g53] M := by kernel_rfl
theorem k31_19 : P31 [1,1,1,1,0,1] = .block 0 (P31 [1,1,1,1,0,1,0]) := by kernel_rfl
theorem k31_20 : P31 [1,1,1,1,0,1,0] = .loop (P31 [1,1,1,1,0,1,0,0]) := by kernel_rfl
theorem k31_21 : P31 [1,1,1,1,0,1,0,0] = .seq (P31 [1,1,1,1,0,1,0,0,0]) (P31 [1,1,1,1,0,1,0,0,1]) := by kernel_rfl
theorem k31_22 : P31 [1,1,1,1,0,1,0,0,0] = .region 6 (O31 [1,1,1,1,0,1,0,0,0]) false := by kernel_rfl
theorem r31_6 {x36 x37 : Int} {M : Mem} {call : CallM} {K : Array Value → Mem → R} :
    opsK Try.prog (fun _ => call) (O31 [1,1,1,1,0,1,0,0,0]) (O31 [1,1,1,1,0,1,0,0,0]).toList 0 #[g0,g1,g2,g3,g4,g5,g6,g7,g8,g9,g10,g11,g12,g13,g14,g15,g16,g17,g18,g19,g20,g21,g22,g23,g24,g25,g26,g27,g28,g29,g30,g31,g32,g33,g34,g35,.int .i64 x36,.int .i64 x37,g38,g39,g40,g41,g42,g43,g44,g45,g46,g47,g48,g49,g50,g51,g52,g53] M K = K #[g0,g1,g2,g3,g4,g5,g6,g7,g8,g9,g10,g11,g12,g13,g14,g15,g16,g17,g18,g19,g20,g21,g22,g23,g24,g25,g26,g27,g28,g29,g30,g31,g32,g33,g34,g35,.int .i64 x36,.int .i64 x37,.bool (decide (x37 < x36)),g39,g40,g41,g42,g43,g44,g45,g46,g47,g48,g49,g50,g51,g52,g53] M := by kernel_rfl
theorem k31_23 : P31 [1,1,1,1,0,1,0,0,1] = .seq (P31 [1,1,1,1,0,1,0,0,1,0]) (P31 [1,1,1,1,0,1,0,0,1,1]) := by kernel_rfl
theorem c31_24 : P31 [1,1,1,1,0,1,0,0,1,0] = .cond (.tmp 38) (P31 [1,1,1,1,0,1,0,0,1,0,0]) (P31 [1,1,1,1,0,1,0,0,1,0,1]) := by kernel_rfl
theorem k31_25 : P31 [1,1,1,1,0,1,0,0,1,0,0] = .skip := by kernel_rfl
theorem k31_26 : P31 [1,1,1,1,0,1,0,0,1,1] = .seq (P31 [1,1,1,1,0,1,0,0,1,1,0]) (P31 [1,1,1,1,0,1,0,0,1,1,1]) := by kernel_rfl
theorem k31_27 : P31 [1,1,1,1,0,1,0,0,1,1,0] = .block 1 (P31 [1,1,1,1,0,1,0,0,1,1,0,0]) := by kernel_rfl
theorem k31_28 : P31 [1,1,1,1,0,1,0,0,1,1,0,0] = .seq (P31 [1,1,1,1,0,1,0,0,1,1,0,0,0]) (P31 [1,1,1,1,0,1,0,0,1,1,0,0,1]) := by kernel_rfl
theorem k31_29 : P31 [1,1,1,1,0,1,0,0,1,1,0,0,0] = .region 7 (O31 [1,1,1,1,0,1,0,0,1,1,0,0,0]) false := by kernel_rfl
theorem r31_7 {x37 : Int} {M : Mem} {call : CallM} {K : Array Value → Mem → R} :
    opsK Try.prog (fun _ => call) (O31 [1,1,1,1,0,1,0,0,1,1,0,0,0]) (O31 [1,1,1,1,0,1,0,0,1,1,0,0,0]).toList 0 #[g0,g1,g2,g3,g4,g5,g6,g7,g8,g9,g10,g11,g12,g13,g14,g15,g16,g17,g18,g19,g20,g21,g22,g23,g24,g25,g26,g27,g28,g29,g30,g31,g32,g33,g34,g35,g36,.int .i64 x37,g38,g39,g40,g41,g42,g43,g44,g45,g46,g47,g48,g49,g50,g51,g52,g53] M K = K #[g0,g1,g2,g3,g4,g5,g6,g7,.int .i64 x37,g9,g10,g11,g12,g13,g14,g15,g16,g17,g18,g19,g20,g21,g22,g23,g24,g25,g26,g27,g28,g29,g30,g31,g32,g33,g34,g35,g36,.int .i64 x37,g38,.int .i64 x37,g40,g41,g42,g43,g44,g45,g46,g47,g48,g49,g50,g51,g52,g53] M := by kernel_rfl
theorem k31_30 : P31 [1,1,1,1,0,1,0,0,1,1,0,0,1] = .region 8 (O31 [1,1,1,1,0,1,0,0,1,1,0,0,1]) false := by kernel_rfl
theorem r31_8 {x0 x1 x6 : Int} {Ax7 : Option Addr} {lx7 cx7 : Nat} {x8 : Int} {M : Mem} {call : CallM} {K : Array Value → Mem → R} :
    opsK Try.prog (fun _ => call) (O31 [1,1,1,1,0,1,0,0,1,1,0,0,1]) (O31 [1,1,1,1,0,1,0,0,1,1,0,0,1]).toList 0 #[.int .i64 x0,.int .i64 x1,g2,g3,g4,g5,.int .i64 x6,.slice Ax7 lx7 cx7,.int .i64 x8,g9,g10,g11,g12,g13,g14,g15,g16,g17,g18,g19,g20,g21,g22,g23,g24,g25,g26,g27,g28,g29,g30,g31,g32,g33,g34,g35,g36,g37,g38,g39,g40,g41,g42,g43,g44,g45,g46,g47,g48,g49,g50,g51,g52,g53] M K = (call 50 #[.int .i64 x0] M).bind fun r_1 => (asI .i64 r_1.1).bind fun x_2 => (binV Try.prog .shr 3 3 (.int .i64 (IntKind.i64.wrap (x8 * x_2))) (.int .i64 x1)).bind fun v_3 => (asI .i64 v_3).bind fun x_4 => (appendP Try.prog #[22, 22] (.slice Ax7 lx7 cx7) (.slice (some ⟨2 * r_1.2.nb.size, 0, none⟩) 1 1) (r_1.2.new (.cells #[.int .i64 (if x6 < IntKind.i64.wrap (x_4 * 64) then x6 else IntKind.i64.wrap (x_4 * 64))] 3))).bind fun r_5 => (asS r_5.1).bind fun s_6 => K #[.int .i64 x0,.int .i64 x1,g2,g3,g4,g5,.int .i64 x6,.slice s_6.1 (s_6.2.1) (s_6.2.2),.int .i64 x8,g9,g10,g11,g12,g13,g14,g15,g16,g17,g18,g19,g20,g21,g22,g23,g24,g25,g26,g27,g28,g29,g30,g31,g32,g33,g34,g35,g36,g37,g38,g39,.slice Ax7 lx7 cx7,.int .i64 x8,.int .i64 x0,.int .i64 x_2,.int .i64 (IntKind.i64.wrap (x8 * x_2)),.int .i64 x1,.int .i64 x_4,.int .i64 (IntKind.i64.wrap (x_4 * 64)),.int .i64 x6,.int .i64 (if x6 < IntKind.i64.wrap (x_4 * 64) then x6 else IntKind.i64.wrap (x_4 * 64)),.slice (some ⟨2 * r_1.2.nb.size, 0, none⟩) 1 1,.slice s_6.1 (s_6.2.1) (s_6.2.2),g52,g53] r_5.2 := by kernel_rfl
theorem k31_31 : P31 [1,1,1,1,0,1,0,0,1,1,1] = .region 9 (O31 [1,1,1,1,0,1,0,0,1,1,1]) false := by kernel_rfl
theorem r31_9 {x37 : Int} {M : Mem} {call : CallM} {K : Array Value → Mem → R} :
    opsK Try.prog (fun _ => call) (O31 [1,1,1,1,0,1,0,0,1,1,1]) (O31 [1,1,1,1,0,1,0,0,1,1,1]).toList 0 #[g0,g1,g2,g3,g4,g5,g6,g7,g8,g9,g10,g11,g12,g13,g14,g15,g16,g17,g18,g19,g20,g21,g22,g23,g24,g25,g26,g27,g28,g29,g30,g31,g32,g33,g34,g35,g36,.int .i64 x37,g38,g39,g40,g41,g42,g43,g44,g45,g46,g47,g48,g49,g50,g51,g52,g53] M K = K #[g0,g1,g2,g3,g4,g5,g6,g7,g8,g9,g10,g11,g12,g13,g14,g15,g16,g17,g18,g19,g20,g21,g22,g23,g24,g25,g26,g27,g28,g29,g30,g31,g32,g33,g34,g35,g36,.int .i64 (IntKind.i64.wrap (x37 + 1)),g38,g39,g40,g41,g42,g43,g44,g45,g46,g47,g48,g49,g50,g51,.int .i64 (IntKind.i64.wrap (x37 + 1)),g53] M := by kernel_rfl
theorem k31_32 : P31 [1,1,1,1,0,1,0,0,1,0,1] = .exit 0 := by kernel_rfl
theorem k31_33 : P31 [1,1,1,1,1] = .seq (P31 [1,1,1,1,1,0]) (P31 [1,1,1,1,1,1]) := by kernel_rfl
theorem k31_34 : P31 [1,1,1,1,1,0] = .region 10 (O31 [1,1,1,1,1,0]) false := by kernel_rfl
theorem r31_10 {Ax7 : Option Addr} {lx7 cx7 : Nat} {M : Mem} {call : CallM} {K : Array Value → Mem → R} :
    opsK Try.prog (fun _ => call) (O31 [1,1,1,1,1,0]) (O31 [1,1,1,1,1,0]).toList 0 #[g0,g1,g2,g3,g4,g5,g6,.slice Ax7 lx7 cx7,g8,g9,g10,g11,g12,g13,g14,g15,g16,g17,g18,g19,g20,g21,g22,g23,g24,g25,g26,g27,g28,g29,g30,g31,g32,g33,g34,g35,g36,g37,g38,g39,g40,g41,g42,g43,g44,g45,g46,g47,g48,g49,g50,g51,g52,g53] M K = K #[g0,g1,g2,g3,.slice Ax7 lx7 cx7,.bool true,g6,.slice Ax7 lx7 cx7,g8,g9,g10,g11,g12,g13,g14,g15,g16,g17,g18,g19,g20,g21,g22,g23,g24,g25,g26,g27,g28,g29,g30,g31,g32,g33,g34,g35,g36,g37,g38,g39,g40,g41,g42,g43,g44,g45,g46,g47,g48,g49,g50,g51,g52,.slice Ax7 lx7 cx7] M := by kernel_rfl
theorem k31_35 : P31 [1,1,1,1,1,1] = .ret := by kernel_rfl
noncomputable def S31_1 : List Item := [.code (P31 [1,0,1]), .code (P31 [1,1])]
def A31_1 (x0 x1 : Int) (x17 : Bool) (M : Mem) (Q : Value → Mem → Prop) : Prop := ∀ (g2 g3 g4 g5 g6 g7 g8 g9 g10 g11 g12 g13 g14 g15 g16 g18 g19 g20 g21 g22 g23 g24 g25 g26 g27 g28 g29 g30 g31 g32 g33 g34 g35 g36 g37 g38 g39 g40 g41 g42 g43 g44 g45 g46 g47 g48 g49 g50 g51 g52 g53 : Value), Rg Try.prog Try.f31 (O31 [1,0,0]) true 9 S31_1 #[.int .i64 x0, .int .i64 x1, g2, g3, g4, g5, g6, g7, g8, g9, g10, g11, g12, g13, g14, g15, g16, .bool x17, g18, g19, g20, g21, g22, g23, g24, g25, g26, g27, g28, g29, g30, g31, g32, g33, g34, g35, g36, g37, g38, g39, g40, g41, g42, g43, g44, g45, g46, g47, g48, g49, g50, g51, g52, g53] M Q
noncomputable def S31_2 : List Item := [.code (P31 [1,0,1]), .code (P31 [1,1])]
def A31_2 (x0 x1 : Int) (x22 : Bool) (M : Mem) (Q : Value → Mem → Prop) : Prop := ∀ (g2 g3 g4 g5 g6 g7 g8 g9 g10 g11 g12 g13 g14 g15 g16 g17 g18 g19 g20 g21 g23 g24 g25 g26 g27 g28 g29 g30 g31 g32 g33 g34 g35 g36 g37 g38 g39 g40 g41 g42 g43 g44 g45 g46 g47 g48 g49 g50 g51 g52 g53 : Value), Rg Try.prog Try.f31 (O31 [1,0,0]) true 14 S31_2 #[.int .i64 x0, .int .i64 x1, g2, g3, g4, g5, g6, g7, g8, g9, g10, g11, g12, g13, g14, g15, g16, g17, g18, g19, g20, g21, .bool x22, g23, g24, g25, g26, g27, g28, g29, g30, g31, g32, g33, g34, g35, g36, g37, g38, g39, g40, g41, g42, g43, g44, g45, g46, g47, g48, g49, g50, g51, g52, g53] M Q
noncomputable def S31_3 : List Item := [.code (P31 [1,0,1]), .code (P31 [1,1])]
def A31_3 (x0 x1 : Int) (x28 : Bool) (M : Mem) (Q : Value → Mem → Prop) : Prop := ∀ (g2 g3 g4 g5 g6 g7 g8 g9 g10 g11 g12 g13 g14 g15 g16 g17 g18 g19 g20 g21 g22 g23 g24 g25 g26 g27 g29 g30 g31 g32 g33 g34 g35 g36 g37 g38 g39 g40 g41 g42 g43 g44 g45 g46 g47 g48 g49 g50 g51 g52 g53 : Value), Rn Try.prog Try.f31 S31_3 #[.int .i64 x0, .int .i64 x1, g2, g3, g4, g5, g6, g7, g8, g9, g10, g11, g12, g13, g14, g15, g16, g17, g18, g19, g20, g21, g22, g23, g24, g25, g26, g27, .bool x28, g29, g30, g31, g32, g33, g34, g35, g36, g37, g38, g39, g40, g41, g42, g43, g44, g45, g46, g47, g48, g49, g50, g51, g52, g53] M Q
noncomputable def S31_4 : List Item := [.code (P31 [1,1,1,1,0,1,0,0]), .inLoop (P31 [1,1,1,1,0,1,0,0]), .inBlock 0, .code (P31 [1,1,1,1,1])]
def A31_4 (x0 x1 x6 : Int) (Ax7 : Option Addr) (lx7 cx7 : Nat) (x36 x37 : Int) (M : Mem) (Q : Value → Mem → Prop) : Prop := ∀ (g2 g3 g4 g5 g8 g9 g10 g11 g12 g13 g14 g15 g16 g17 g18 g19 g20 g21 g22 g23 g24 g25 g26 g27 g28 g29 g30 g31 g32 g33 g34 g35 g38 g39 g40 g41 g42 g43 g44 g45 g46 g47 g48 g49 g50 g51 g52 g53 : Value), Rn Try.prog Try.f31 S31_4 #[.int .i64 x0, .int .i64 x1, g2, g3, g4, g5, .int .i64 x6, .slice Ax7 lx7 cx7, g8, g9, g10, g11, g12, g13, g14, g15, g16, g17, g18, g19, g20, g21, g22, g23, g24, g25, g26, g27, g28, g29, g30, g31, g32, g33, g34, g35, .int .i64 x36, .int .i64 x37, g38, g39, g40, g41, g42, g43, g44, g45, g46, g47, g48, g49, g50, g51, g52, g53] M Q
theorem w31_0 {x0 x1 : Int} {M : Mem} {Q : Value → Mem → Prop} (H :
    Cn Try.prog 35 #[.int .i64 x0, .int .i64 16, .int .i64 256] M fun v1' N1' =>
     ∃ b2', asB v1' = some b2' ∧
     (((!b2') = true →
      A31_1 x0 x1 true N1' Q) ∧
      ((!b2') = false →
      A31_1 x0 x1 ((x0.tmod 2) != 0) N1' Q))) :
    Cn Try.prog 31 #[.int .i64 x0, .int .i64 x1] M Q := by
  refine Cn.of b31 d31 t31 ?_
  refine Rn.seq k31_0 (Rn.region k31_1 (fun call K => r31_0) (Rch.leaf (Rn.seq k31_2 (Rn.seq k31_3 (Rn.regionC k31_5 (Rg.step (d := 9) (j := 9) (fun call K => r31_1p0) rfl rfl (Rch.call H fun v1' N1' H => Rch.ex H fun b2' H => ?_)))))))
  refine Rch.cB (fun h => ?_) (fun h => ?_)
  · replace H := H.1 (h)
    refine Rch.rest ?_
    exact H _ _ _ _ _ _ _ _ _ _ _ _ _ _ _ _ _ _ _ _ _ _ _ _ _ _ _ _ _ _ _ _ _ _ _ _ _ _ _ _ _ _ _ _ _ _ _ _ _ _ _
  · replace H := H.2 (h)
    refine Rch.rest ?_
    exact H _ _ _ _ _ _ _ _ _ _ _ _ _ _ _ _ _ _ _ _ _ _ _ _ _ _ _ _ _ _ _ _ _ _ _ _ _ _ _ _ _ _ _ _ _ _ _ _ _ _ _

theorem w31_1 {x0 x1 : Int} {x17 : Bool} {M : Mem} {Q : Value → Mem → Prop} (H :
    ((x17 = true →
     A31_2 x0 x1 true M Q) ∧
     (x17 = false →
     Cn Try.prog 35 #[.int .i64 x1, .int .i64 0, .int .i64 2] M fun v3' N3' =>
      ∃ b4', asB v3' = some b4' ∧
      A31_2 x0 x1 (!b4') N3' Q))) :
    A31_1 x0 x1 x17 M Q := by
  intro g2 g3 g4 g5 g6 g7 g8 g9 g10 g11 g12 g13 g14 g15 g16 g18 g19 g20 g21 g22 g23 g24 g25 g26 g27 g28 g29 g30 g31 g32 g33 g34 g35 g36 g37 g38 g39 g40 g41 g42 g43 g44 g45 g46 g47 g48 g49 g50 g51 g52 g53
  refine Rg.step (d := 5) (j := 14) (fun call K => r31_1p9) rfl rfl ?_
  refine Rch.cB (fun h => ?_) (fun h => ?_)
  · replace H := H.1 (h)
    refine Rch.rest ?_
    exact H _ _ _ _ _ _ _ _ _ _ _ _ _ _ _ _ _ _ _ _ _ _ _ _ _ _ _ _ _ _ _ _ _ _ _ _ _ _ _ _ _ _ _ _ _ _ _ _ _ _ _
  · replace H := H.2 (h)
    refine Rch.call H fun v3' N3' H => Rch.ex H fun b4' H => Rch.rest ?_
    exact H _ _ _ _ _ _ _ _ _ _ _ _ _ _ _ _ _ _ _ _ _ _ _ _ _ _ _ _ _ _ _ _ _ _ _ _ _ _ _ _ _ _ _ _ _ _ _ _ _ _ _

theorem w31_2 {x0 x1 : Int} {x22 : Bool} {M : Mem} {Q : Value → Mem → Prop} (H :
    ((x22 = true →
     A31_3 x0 x1 true M Q) ∧
     (x22 = false →
     ∃ v5', binV Try.prog .shl 3 3 (.int .i64 1) (.int .i64 x1) = some v5' ∧
     ∃ x6', asI .i64 v5' = some x6' ∧
     Cn Try.prog 50 #[.int .i64 x0] M fun v7' N7' =>
      ∃ x8', asI .i64 v7' = some x8' ∧
      A31_3 x0 x1 (decide (x6' > x8')) N7' Q))) :
    A31_2 x0 x1 x22 M Q := by
  intro g2 g3 g4 g5 g6 g7 g8 g9 g10 g11 g12 g13 g14 g15 g16 g17 g18 g19 g20 g21 g23 g24 g25 g26 g27 g28 g29 g30 g31 g32 g33 g34 g35 g36 g37 g38 g39 g40 g41 g42 g43 g44 g45 g46 g47 g48 g49 g50 g51 g52 g53
  refine Rg.step (d := 6) (j := 20) (fun call K => r31_1p14) rfl rfl ?_
  refine Rch.cB (fun h => ?_) (fun h => ?_)
  · replace H := H.1 (h)
    refine Rch.rest (Rg.done rfl ?_)
    exact H _ _ _ _ _ _ _ _ _ _ _ _ _ _ _ _ _ _ _ _ _ _ _ _ _ _ _ _ _ _ _ _ _ _ _ _ _ _ _ _ _ _ _ _ _ _ _ _ _ _ _
  · replace H := H.2 (h)
    refine Rch.ex H fun v5' H => Rch.ex H fun x6' H => Rch.call H fun v7' N7' H => Rch.ex H fun x8' H => Rch.rest (Rg.done rfl ?_)
    exact H _ _ _ _ _ _ _ _ _ _ _ _ _ _ _ _ _ _ _ _ _ _ _ _ _ _ _ _ _ _ _ _ _ _ _ _ _ _ _ _ _ _ _ _ _ _ _ _ _ _ _

theorem w31_3 {x0 x1 : Int} {x28 : Bool} {M : Mem} {Q : Value → Mem → Prop} (H :
    ((x28 = true →
     Q (.tuple #[.slice none 0 0, .bool false]) M) ∧
     (x28 = false →
     ∃ v9', binV Try.prog .shl 3 3 (.int .i64 1) (.int .i64 x1) = some v9' ∧
     ∃ x10', asI .i64 v9' = some x10' ∧
     A31_4 x0 x1 (IntKind.i64.wrap ((IntKind.i64.wrap ((IntKind.i64.wrap ((IntKind.i64.wrap (x0 + 8)) - 1)).tdiv 8)) * 8)) none 0 0 (IntKind.i64.wrap (x10' + 1)) 0 M Q))) :
    A31_3 x0 x1 x28 M Q := by
  intro g2 g3 g4 g5 g6 g7 g8 g9 g10 g11 g12 g13 g14 g15 g16 g17 g18 g19 g20 g21 g22 g23 g24 g25 g26 g27 g29 g30 g31 g32 g33 g34 g35 g36 g37 g38 g39 g40 g41 g42 g43 g44 g45 g46 g47 g48 g49 g50 g51 g52 g53
  refine Rn.cnd (v := x28) ⟨c31_6, rfl, by kernel_rfl⟩ (fun h => ?_) (fun h => ?_)
  · replace H := H.1 (h)
    refine Rn.seq k31_7 (Rn.region k31_8 (fun call K => r31_2) (Rch.leaf ?_))
    exact Rn.ret k31_9 e31 H
  · replace H := H.2 (h)
    refine Rn.skip k31_11 (Rn.seq k31_12 (Rn.region k31_13 (fun call K => r31_3) (Rch.leaf (Rn.seq k31_14 (Rn.region k31_15 (fun call K => r31_4) (Rch.leaf (Rn.seq k31_16 (Rn.seq k31_17 (Rn.region k31_18 (fun call K => r31_5) (Rch.ex H fun v9' H => Rch.ex H fun x10' H => ?_))))))))))
    refine Rch.leaf (Rn.block k31_19 (Rn.loop k31_20 ?_))
    exact H _ _ _ _ _ _ _ _ _ _ _ _ _ _ _ _ _ _ _ _ _ _ _ _ _ _ _ _ _ _ _ _ _ _ _ _ _ _ _ _ _ _ _ _ _ _ _ _

theorem w31_4 {x0 x1 x6 : Int} {Ax7 : Option Addr} {lx7 cx7 : Nat} {x36 x37 : Int} {M : Mem} {Q : Value → Mem → Prop} (H :
    ((x37 < x36 →
     Cn Try.prog 50 #[.int .i64 x0] M fun v11' N11' =>
      ∃ x12', asI .i64 v11' = some x12' ∧
      ∃ v13', binV Try.prog .shr 3 3 (.int .i64 (IntKind.i64.wrap (x37 * x12'))) (.int .i64 x1) = some v13' ∧
      ∃ x14', asI .i64 v13' = some x14' ∧
      ∃ r15', appendP Try.prog #[22, 22] (.slice Ax7 lx7 cx7) (.slice (some ⟨2 * N11'.nb.size, 0, none⟩) 1 1) (N11'.new (.cells #[.int .i64 (if x6 < IntKind.i64.wrap (x14' * 64) then x6 else IntKind.i64.wrap (x14' * 64))] 3)) = some r15' ∧
      ∃ s16', asS r15'.1 = some s16' ∧
      A31_4 x0 x1 x6 s16'.1 s16'.2.1 s16'.2.2 x36 (IntKind.i64.wrap (x37 + 1)) r15'.2 Q) ∧
     (¬ (x37 < x36) →
     Q (.tuple #[.slice Ax7 lx7 cx7, .bool true]) M))) :
    A31_4 x0 x1 x6 Ax7 lx7 cx7 x36 x37 M Q := by
  intro g2 g3 g4 g5 g8 g9 g10 g11 g12 g13 g14 g15 g16 g17 g18 g19 g20 g21 g22 g23 g24 g25 g26 g27 g28 g29 g30 g31 g32 g33 g34 g35 g38 g39 g40 g41 g42 g43 g44 g45 g46 g47 g48 g49 g50 g51 g52 g53
  refine Rn.seq k31_21 (Rn.region k31_22 (fun call K => r31_6) (Rch.leaf (Rn.seq k31_23 ?_)))
  refine Rn.cnd (v := decide (x37 < x36)) ⟨c31_24, rfl, by kernel_rfl⟩ (fun h => ?_) (fun h => ?_)
  · replace H := H.1 (of_decide_eq_true h)
    refine Rn.skip k31_25 (Rn.seq k31_26 (Rn.block k31_27 (Rn.seq k31_28 (Rn.region k31_29 (fun call K => r31_7) (Rch.leaf (Rn.region k31_30 (fun call K => r31_8) (Rch.call H fun v11' N11' H => Rch.ex H fun x12' H => Rch.ex H fun v13' H => Rch.ex H fun x14' H => Rch.ex H fun r15' H => ?_)))))))
    refine Rch.ex H fun s16' H => Rch.leaf (Rn.blk (Rn.region k31_31 (fun call K => r31_9) (Rch.leaf (Rn.lp ?_))))
    exact H _ _ _ _ _ _ _ _ _ _ _ _ _ _ _ _ _ _ _ _ _ _ _ _ _ _ _ _ _ _ _ _ _ _ _ _ _ _ _ _ _ _ _ _ _ _ _ _
  · replace H := H.2 (of_decide_eq_false h)
    refine Rn.exit k31_32 rfl (Rn.seq k31_33 (Rn.region k31_34 (fun call K => r31_10) (Rch.leaf ?_)))
    exact Rn.ret k31_35 e31 H


/-! ### zoetrope/tiles.Layout: function 16 -/
noncomputable abbrev P16 (p : List Nat) : Code := subC (codeOf Try.f16) p
noncomputable abbrev O16 (p : List Nat) : Array Oper := opsOf (subC (codeOf Try.f16) p)
theorem b16 : Try.prog.funcs[16]? = some Try.f16 ∧ (Orc.tab Try.prog).lookup 16 = none := ⟨by kernel_rfl, by kernel_rfl⟩
theorem d16 : Try.f16.body = some (P16 []) := by kernel_rfl
theorem t16 {x0_0 x0_1 x1 x2 : Int} : #[.agg #[.int .i64 x0_0, .int .i64 x0_1],.int .i64 x1,.int .i64 x2] ++ Array.replicate (Try.f16.ntmps - (#[.agg #[.int .i64 x0_0, .int .i64 x0_1],.int .i64 x1,.int .i64 x2] : Array Value).size) undef = #[.agg #[.int .i64 x0_0, .int .i64 x0_1],.int .i64 x1,.int .i64 x2,undef,undef,undef,undef,undef,undef,undef,undef,undef,undef,undef,undef,undef,undef,undef,undef,undef,undef,undef,undef,undef,undef,undef,undef,undef,undef,undef,undef,undef,undef,undef,undef,undef,undef,undef,undef,undef,undef,undef,undef,undef,undef,undef,undef,undef,undef,undef,undef,undef,undef,undef,undef,undef,undef,undef,undef,undef,undef,undef,undef,undef,undef,undef,undef,undef,undef,undef,undef,undef,undef,undef,undef,undef,undef,undef,undef,undef,undef,undef] := by kernel_rfl
theorem k16_0 : P16 [] = .seq (P16 [0]) (P16 [1]) := by kernel_rfl
theorem k16_1 : P16 [0] = .region 0 (O16 [0]) false := by kernel_rfl
theorem r16_0 {x0_0 x0_1 : Int} {M : Mem} {call : CallM} {K : Array Value → Mem → R} :
    opsK Try.prog (fun _ => call) (O16 [0]) (O16 [0]).toList 0 #[.agg #[.int .i64 x0_0, .int .i64 x0_1],g1,g2,g3,g4,g5,g6,g7,g8,g9,g10,g11,g12,g13,g14,g15,g16,g17,g18,g19,g20,g21,g22,g23,g24,g25,g26,g27,g28,g29,g30,g31,g32,g33,g34,g35,g36,g37,g38,g39,g40,g41,g42,g43,g44,g45,g46,g47,g48,g49,g50,g51,g52,g53,g54,g55,g56,g57,g58,g59,g60,g61,g62,g63,g64,g65,g66,g67,g68,g69,g70,g71,g72,g73,g74,g75,g76,g77,g78,g79,g80,g81] M K = K #[.agg #[.int .i64 x0_0, .int .i64 x0_1],g1,g2,.pointer (some ⟨2 * M.nb.size, 0, none⟩),g4,g5,.slice none 0 0,.int .i64 0,g8,g9,g10,g11,g12,g13,g14,g15,g16,g17,g18,g19,g20,g21,g22,g23,g24,g25,g26,g27,g28,g29,g30,g31,g32,g33,g34,g35,g36,g37,g38,g39,g40,g41,g42,g43,g44,g45,g46,g47,g48,g49,g50,g51,g52,g53,g54,g55,g56,g57,g58,g59,g60,g61,g62,g63,g64,g65,g66,g67,g68,g69,g70,g71,g72,g73,g74,g75,g76,g77,g78,g79,g80,g81] (M.new (.cells #[.int .i64 x0_0, .int .i64 x0_1] 32)) := by kernel_rfl
theorem k16_2 : P16 [1] = .seq (P16 [1,0]) (P16 [1,1]) := by kernel_rfl
theorem k16_3 : P16 [1,0] = .region 1 (O16 [1,0]) false := by kernel_rfl
theorem r16_1 {x1 : Int} {x3 : Option Addr} {M : Mem} {call : CallM} {K : Array Value → Mem → R} :
    opsK Try.prog (fun _ => call) (O16 [1,0]) (O16 [1,0]).toList 0 #[g0,.int .i64 x1,g2,.pointer x3,g4,g5,g6,g7,g8,g9,g10,g11,g12,g13,g14,g15,g16,g17,g18,g19,g20,g21,g22,g23,g24,g25,g26,g27,g28,g29,g30,g31,g32,g33,g34,g35,g36,g37,g38,g39,g40,g41,g42,g43,g44,g45,g46,g47,g48,g49,g50,g51,g52,g53,g54,g55,g56,g57,g58,g59,g60,g61,g62,g63,g64,g65,g66,g67,g68,g69,g70,g71,g72,g73,g74,g75,g76,g77,g78,g79,g80,g81] M K = (x3).bind fun a_1 => (M.intAt .i64 a_1.block a_1.off).bind fun x_2 => (call 31 #[.int .i64 x_2, .int .i64 x1] M).bind fun r_3 => (asU 2 r_3.1).bind fun cs_4 => (asS (cs_4.getD 0 undef)).bind fun s_5 => (asB (cs_4.getD 1 undef)).bind fun b_6 => K #[g0,.int .i64 x1,g2,.pointer x3,g4,g5,g6,g7,.slice s_5.1 (s_5.2.1) (s_5.2.2),.bool b_6,g10,g11,g12,g13,g14,.tuple #[.slice s_5.1 (s_5.2.1) (s_5.2.2), .bool b_6],.pointer (some ⟨a_1.block, a_1.off, none⟩),.int .i64 x_2,.int .i64 x1,.tuple #[.slice s_5.1 (s_5.2.1) (s_5.2.2), .bool b_6],.slice s_5.1 (s_5.2.1) (s_5.2.2),.bool b_6,g22,g23,g24,g25,g26,g27,g28,g29,g30,g31,g32,g33,g34,g35,g36,g37,g38,g39,g40,g41,g42,g43,g44,g45,g46,g47,g48,g49,g50,g51,g52,g53,g54,g55,g56,g57,g58,g59,g60,g61,g62,g63,g64,g65,g66,g67,g68,g69,g70,g71,g72,g73,g74,g75,g76,g77,g78,g79,g80,g81] r_3.2 := by kernel_rfl
theorem k16_4 : P16 [1,1] = .seq (P16 [1,1,0]) (P16 [1,1,1]) := by kernel_rfl
theorem k16_5 : P16 [1,1,0] = .region 2 (O16 [1,1,0]) false := by kernel_rfl
theorem r16_2 {x2 : Int} {x3 : Option Addr} {M : Mem} {call : CallM} {K : Array Value → Mem → R} :
    opsK Try.prog (fun _ => call) (O16 [1,1,0]) (O16 [1,1,0]).toList 0 #[g0,g1,.int .i64 x2,.pointer x3,g4,g5,g6,g7,g8,g9,g10,g11,g12,g13,g14,g15,g16,g17,g18,g19,g20,g21,g22,g23,g24,g25,g26,g27,g28,g29,g30,g31,g32,g33,g34,g35,g36,g37,g38,g39,g40,g41,g42,g43,g44,g45,g46,g47,g48,g49,g50,g51,g52,g53,g54,g55,g56,g57,g58,g59,g60,g61,g62,g63,g64,g65,g66,g67,g68,g69,g70,g71,g72,g73,g74,g75,g76,g77,g78,g79,g80,g81] M K = (x3).bind fun a_1 => (M.intAt .i64 a_1.block (a_1.off + 1)).bind fun x_2 => (call 31 #[.int .i64 x_2, .int .i64 x2] M).bind fun r_3 => (asU 2 r_3.1).bind fun cs_4 => (asS (cs_4.getD 0 undef)).bind fun s_5 => (asB (cs_4.getD 1 undef)).bind fun b_6 => K #[g0,g1,.int .i64 x2,.pointer x3,g4,g5,g6,g7,g8,g9,.slice s_5.1 (s_5.2.1) (s_5.2.2),.bool b_6,g12,g13,g14,g15,g16,g17,g18,g19,g20,g21,.tuple #[.slice s_5.1 (s_5.2.1) (s_5.2.2), .bool b_6],.pointer (some ⟨a_1.block, a_1.off + 1, none⟩),.int .i64 x_2,.int .i64 x2,.tuple #[.slice s_5.1 (s_5.2.1) (s_5.2.2), .bool b_6],.slice s_5.1 (s_5.2.1) (s_5.2.2),.bool b_6,g29,g30,g31,g32,g33,g34,g35,g36,g37,g38,g39,g40,g41,g42,g43,g44,g45,g46,g47,g48,g49,g50,g51,g52,g53,g54,g55,g56,g57,g58,g59,g60,g61,g62,g63,g64,g65,g66,g67,g68,g69,g70,g71,g72,g73,g74,g75,g76,g77,g78,g79,g80,g81] r_3.2 := by kernel_rfl
theorem k16_6 : P16 [1,1,1] = .seq (P16 [1,1,1,0]) (P16 [1,1,1,1]) := by kernel_rfl
theorem k16_7 : P16 [1,1,1,0] = .seq (P16 [1,1,1,0,0]) (P16 [1,1,1,0,1]) := by kernel_rfl
theorem k16_8 : P16 [1,1,1,0,0] = .region 3 (O16 [1,1,1,0,0]) false := by kernel_rfl
theorem r16_3 {x9 x11 : Bool} {M : Mem} {call : CallM} {K : Array Value → Mem → R} :
    opsK Try.prog (fun _ => call) (O16 [1,1,1,0,0]) (O16 [1,1,1,0,0]).toList 0 #[g0,g1,g2,g3,g4,g5,g6,g7,g8,.bool x9,g10,.bool x11,g12,g13,g14,g15,g16,g17,g18,g19,g20,g21,g22,g23,g24,g25,g26,g27,g28,g29,g30,g31,g32,g33,g34,g35,g36,g37,g38,g39,g40,g41,g42,g43,g44,g45,g46,g47,g48,g49,g50,g51,g52,g53,g54,g55,g56,g57,g58,g59,g60,g61,g62,g63,g64,g65,g66,g67,g68,g69,g70,g71,g72,g73,g74,g75,g76,g77,g78,g79,g80,g81] M K = withK (fun w31 w32 w33 w34 M => K #[g0,g1,g2,g3,g4,g5,g6,g7,g8,.bool x9,g10,.bool x11,g12,g13,g14,g15,g16,g17,g18,g19,g20,g21,g22,g23,g24,g25,g26,g27,g28,.bool x9,.bool (!x9),w31,w32,w33,w34,g35,g36,g37,g38,g39,g40,g41,g42,g43,g44,g45,g46,g47,g48,g49,g50,g51,g52,g53,g54,g55,g56,g57,g58,g59,g60,g61,g62,g63,g64,g65,g66,g67,g68,g69,g70,g71,g72,g73,g74,g75,g76,g77,g78,g79,g80,g81] M) fun k => cond (!x9) (k (.bool true) undef undef (.bool true) M) (k (.bool false) (.bool x11) (.bool (!x11)) (.bool (!x11)) M) := by kernel_rfl
theorem c16_9 : P16 [1,1,1,0,1] = .cond (.tmp 34) (P16 [1,1,1,0,1,0]) (P16 [1,1,1,0,1,1]) := by kernel_rfl
theorem k16_10 : P16 [1,1,1,0,1,0] = .seq (P16 [1,1,1,0,1,0,0]) (P16 [1,1,1,0,1,0,1]) := by kernel_rfl
theorem k16_11 : P16 [1,1,1,0,1,0,0] = .region 4 (O16 [1,1,1,0,1,0,0]) false := by kernel_rfl
theorem r16_4 {M : Mem} {call : CallM} {K : Array Value → Mem → R} :
    opsK Try.prog (fun _ => call) (O16 [1,1,1,0,1,0,0]) (O16 [1,1,1,0,1,0,0]).toList 0 #[g0,g1,g2,g3,g4,g5,g6,g7,g8,g9,g10,g11,g12,g13,g14,g15,g16,g17,g18,g19,g20,g21,g22,g23,g24,g25,g26,g27,g28,g29,g30,g31,g32,g33,g34,g35,g36,g37,g38,g39,g40,g41,g42,g43,g44,g45,g46,g47,g48,g49,g50,g51,g52,g53,g54,g55,g56,g57,g58,g59,g60,g61,g62,g63,g64,g65,g66,g67,g68,g69,g70,g71,g72,g73,g74,g75,g76,g77,g78,g79,g80,g81] M K = K #[g0,g1,g2,g3,g4,g5,.slice none 0 0,.int .i64 2,g8,g9,g10,g11,g12,g13,g14,g15,g16,g17,g18,g19,g20,g21,g22,g23,g24,g25,g26,g27,g28,g29,g30,g31,g32,g33,g34,g35,g36,g37,g38,g39,g40,g41,g42,g43,g44,g45,g46,g47,g48,g49,g50,g51,g52,g53,g54,g55,g56,g57,g58,g59,g60,g61,g62,g63,g64,g65,g66,g67,g68,g69,g70,g71,g72,g73,g74,g75,g76,g77,g78,g79,g80,g81] M := by kernel_rfl
theorem k16_12 : P16 [1,1,1,0,1,0,1] = .ret := by kernel_rfl
theorem e16 {M : Mem} : finish Try.prog Try.f16 #[g0,g1,g2,g3,g4,g5,g6,g7,g8,g9,g10,g11,g12,g13,g14,g15,g16,g17,g18,g19,g20,g21,g22,g23,g24,g25,g26,g27,g28,g29,g30,g31,g32,g33,g34,g35,g36,g37,g38,g39,g40,g41,g42,g43,g44,g45,g46,g47,g48,g49,g50,g51,g52,g53,g54,g55,g56,g57,g58,g59,g60,g61,g62,g63,g64,g65,g66,g67,g68,g69,g70,g71,g72,g73,g74,g75,g76,g77,g78,g79,g80,g81] M = some (.tuple #[g6, g7], M) := by kernel_rfl
theorem k16_14 : P16 [1,1,1,0,1,1] = .skip := by kernel_rfl
theorem k16_15 : P16 [1,1,1,1] = .seq (P16 [1,1,1,1,0]) (P16 [1,1,1,1,1]) := by kernel_rfl
theorem k16_16 : P16 [1,1,1,1,0] = .region 5 (O16 [1,1,1,1,0]) false := by kernel_rfl
theorem r16_5 {M : Mem} {call : CallM} {K : Array Value → Mem → R} :
    opsK Try.prog (fun _ => call) (O16 [1,1,1,1,0]) (O16 [1,1,1,1,0]).toList 0 #[g0,g1,g2,g3,g4,g5,g6,g7,g8,g9,g10,g11,g12,g13,g14,g15,g16,g17,g18,g19,g20,g21,g22,g23,g24,g25,g26,g27,g28,g29,g30,g31,g32,g33,g34,g35,g36,g37,g38,g39,g40,g41,g42,g43,g44,g45,g46,g47,g48,g49,g50,g51,g52,g53,g54,g55,g56,g57,g58,g59,g60,g61,g62,g63,g64,g65,g66,g67,g68,g69,g70,g71,g72,g73,g74,g75,g76,g77,g78,g79,g80,g81] M K = K #[g0,g1,g2,g3,g4,g5,g6,g7,g8,g9,g10,g11,.slice none 0 0,g13,g14,g15,g16,g17,g18,g19,g20,g21,g22,g23,g24,g25,g26,g27,g28,g29,g30,g31,g32,g33,g34,g35,g36,g37,g38,g39,g40,g41,g42,g43,g44,g45,g46,g47,g48,g49,g50,g51,g52,g53,g54,g55,g56,g57,g58,g59,g60,g61,g62,g63,g64,g65,g66,g67,g68,g69,g70,g71,g72,g73,g74,g75,g76,g77,g78,g79,g80,g81] M := by kernel_rfl
theorem k16_17 : P16 [1,1,1,1,1] = .seq (P16 [1,1,1,1,1,0]) (P16 [1,1,1,1,1,1]) := by kernel_rfl
theorem k16_18 : P16 [1,1,1,1,1,0] = .seq (P16 [1,1,1,1,1,0,0]) (P16 [1,1,1,1,1,0,1]) := by kernel_rfl
theorem k16_19 : P16 [1,1,1,1,1,0,0] = .region 6 (O16 [1,1,1,1,1,0,0]) false := by kernel_rfl
theorem r16_6 {Ax10 : Option Addr} {lx10 cx10 : Nat} {M : Mem} {call : CallM} {K : Array Value → Mem → R} :
    opsK Try.prog (fun _ => call) (O16 [1,1,1,1,1,0,0]) (O16 [1,1,1,1,1,0,0]).toList 0 #[g0,g1,g2,g3,g4,g5,g6,g7,g8,g9,.slice Ax10 lx10 cx10,g11,g12,g13,g14,g15,g16,g17,g18,g19,g20,g21,g22,g23,g24,g25,g26,g27,g28,g29,g30,g31,g32,g33,g34,g35,g36,g37,g38,g39,g40,g41,g42,g43,g44,g45,g46,g47,g48,g49,g50,g51,g52,g53,g54,g55,g56,g57,g58,g59,g60,g61,g62,g63,g64,g65,g66,g67,g68,g69,g70,g71,g72,g73,g74,g75,g76,g77,g78,g79,g80,g81] M K = K #[g0,g1,g2,g3,g4,g5,g6,g7,g8,g9,.slice Ax10 lx10 cx10,g11,g12,g13,g14,g15,g16,g17,g18,g19,g20,g21,g22,g23,g24,g25,g26,g27,g28,g29,g30,g31,g32,g33,g34,.slice Ax10 lx10 cx10,.int .i64 ((lx10 : Int)),.int .i64 (IntKind.i64.wrap (((lx10 : Int)) - 1)),.int .i64 0,g39,g40,g41,g42,g43,g44,g45,g46,g47,g48,g49,g50,g51,g52,g53,g54,g55,g56,g57,g58,g59,g60,g61,g62,g63,g64,g65,g66,g67,g68,g69,g70,g71,g72,g73,g74,g75,g76,g77,g78,g79,g80,g81] M := by kernel_rfl
theorem k16_20 : P16 [1,1,1,1,1,0,1] = .block 0 (P16 [1,1,1,1,1,0,1,0]) := by kernel_rfl
theorem k16_21 : P16 [1,1,1,1,1,0,1,0] = .loop (P16 [1,1,1,1,1,0,1,0,0]) := by kernel_rfl
theorem k16_22 : P16 [1,1,1,1,1,0,1,0,0] = .seq (P16 [1,1,1,1,1,0,1,0,0,0]) (P16 [1,1,1,1,1,0,1,0,0,1]) := by kernel_rfl
theorem k16_23 : P16 [1,1,1,1,1,0,1,0,0,0] = .region 7 (O16 [1,1,1,1,1,0,1,0,0,0]) false := by kernel_rfl
theorem r16_7 {x37 x38 : Int} {M : Mem} {call : CallM} {K : Array Value → Mem → R} :
    opsK Try.prog (fun _ => call) (O16 [1,1,1,1,1,0,1,0,0,0]) (O16 [1,1,1,1,1,0,1,0,0,0]).toList 0 #[g0,g1,g2,g3,g4,g5,g6,g7,g8,g9,g10,g11,g12,g13,g14,g15,g16,g17,g18,g19,g20,g21,g22,g23,g24,g25,g26,g27,g28,g29,g30,g31,g32,g33,g34,g35,g36,.int .i64 x37,.int .i64 x38,g39,g40,g41,g42,g43,g44,g45,g46,g47,g48,g49,g50,g51,g52,g53,g54,g55,g56,g57,g58,g59,g60,g61,g62,g63,g64,g65,g66,g67,g68,g69,g70,g71,g72,g73,g74,g75,g76,g77,g78,g79,g80,g81] M K = K #[g0,g1,g2,g3,g4,g5,g6,g7,g8,g9,g10,g11,g12,g13,g14,g15,g16,g17,g18,g19,g20,g21,g22,g23,g24,g25,g26,g27,g28,g29,g30,g31,g32,g33,g34,g35,g36,.int .i64 x37,.int .i64 x38,.bool (decide (x38 < x37)),g40,g41,g42,g43,g44,g45,g46,g47,g48,g49,g50,g51,g52,g53,g54,g55,g56,g57,g58,g59,g60,g61,g62,g63,g64,g65,g66,g67,g68,g69,g70,g71,g72,g73,g74,g75,g76,g77,g78,g79,g80,g81] M := by kernel_rfl
theorem k16_24 : P16 [1,1,1,1,1,0,1,0,0,1] = .seq (P16 [1,1,1,1,1,0,1,0,0,1,0]) (P16 [1,1,1,1,1,0,1,0,0,1,1]) := by kernel_rfl
theorem c16_25 : P16 [1,1,1,1,1,0,1,0,0,1,0] = .cond (.tmp 39) (P16 [1,1,1,1,1,0,1,0,0,1,0,0]) (P16 [1,1,1,1,1,0,1,0,0,1,0,1]) := by kernel_rfl
theorem k16_26 : P16 [1,1,1,1,1,0,1,0,0,1,0,0] = .skip := by kernel_rfl
theorem k16_27 : P16 [1,1,1,1,1,0,1,0,0,1,1] = .seq (P16 [1,1,1,1,1,0,1,0,0,1,1,0]) (P16 [1,1,1,1,1,0,1,0,0,1,1,1]) := by kernel_rfl
theorem k16_28 : P16 [1,1,1,1,1,0,1,0,0,1,1,0] = .block 1 (P16 [1,1,1,1,1,0,1,0,0,1,1,0,0]) := by kernel_rfl
theorem k16_29 : P16 [1,1,1,1,1,0,1,0,0,1,1,0,0] = .seq (P16 [1,1,1,1,1,0,1,0,0,1,1,0,0,0]) (P16 [1,1,1,1,1,0,1,0,0,1,1,0,0,1]) := by kernel_rfl
theorem k16_30 : P16 [1,1,1,1,1,0,1,0,0,1,1,0,0,0] = .region 8 (O16 [1,1,1,1,1,0,1,0,0,1,1,0,0,0]) false := by kernel_rfl
theorem r16_8 {x38 : Int} {M : Mem} {call : CallM} {K : Array Value → Mem → R} :
    opsK Try.prog (fun _ => call) (O16 [1,1,1,1,1,0,1,0,0,1,1,0,0,0]) (O16 [1,1,1,1,1,0,1,0,0,1,1,0,0,0]).toList 0 #[g0,g1,g2,g3,g4,g5,g6,g7,g8,g9,g10,g11,g12,g13,g14,g15,g16,g17,g18,g19,g20,g21,g22,g23,g24,g25,g26,g27,g28,g29,g30,g31,g32,g33,g34,g35,g36,g37,.int .i64 x38,g39,g40,g41,g42,g43,g44,g45,g46,g47,g48,g49,g50,g51,g52,g53,g54,g55,g56,g57,g58,g59,g60,g61,g62,g63,g64,g65,g66,g67,g68,g69,g70,g71,g72,g73,g74,g75,g76,g77,g78,g79,g80,g81] M K = K #[g0,g1,g2,g3,g4,g5,g6,g7,g8,g9,g10,g11,g12,.int .i64 x38,g14,g15,g16,g17,g18,g19,g20,g21,g22,g23,g24,g25,g26,g27,g28,g29,g30,g31,g32,g33,g34,g35,g36,g37,.int .i64 x38,g39,.int .i64 x38,g41,g42,g43,g44,g45,g46,g47,g48,g49,g50,g51,g52,g53,g54,g55,g56,g57,g58,g59,g60,g61,g62,g63,g64,g65,g66,g67,g68,g69,g70,g71,g72,g73,g74,g75,g76,g77,g78,g79,g80,g81] M := by kernel_rfl
theorem k16_31 : P16 [1,1,1,1,1,0,1,0,0,1,1,0,0,1] = .seq (P16 [1,1,1,1,1,0,1,0,0,1,1,0,0,1,0]) (P16 [1,1,1,1,1,0,1,0,0,1,1,0,0,1,1]) := by kernel_rfl
theorem k16_32 : P16 [1,1,1,1,1,0,1,0,0,1,1,0,0,1,0] = .region 9 (O16 [1,1,1,1,1,0,1,0,0,1,1,0,0,1,0]) false := by kernel_rfl
theorem r16_9 {Ax8 : Option Addr} {lx8 cx8 : Nat} {M : Mem} {call : CallM} {K : Array Value → Mem → R} :
    opsK Try.prog (fun _ => call) (O16 [1,1,1,1,1,0,1,0,0,1,1,0,0,1,0]) (O16 [1,1,1,1,1,0,1,0,0,1,1,0,0,1,0]).toList 0 #[g0,g1,g2,g3,g4,g5,g6,g7,.slice Ax8 lx8 cx8,g9,g10,g11,g12,g13,g14,g15,g16,g17,g18,g19,g20,g21,g22,g23,g24,g25,g26,g27,g28,g29,g30,g31,g32,g33,g34,g35,g36,g37,g38,g39,g40,g41,g42,g43,g44,g45,g46,g47,g48,g49,g50,g51,g52,g53,g54,g55,g56,g57,g58,g59,g60,g61,g62,g63,g64,g65,g66,g67,g68,g69,g70,g71,g72,g73,g74,g75,g76,g77,g78,g79,g80,g81] M K = K #[g0,g1,g2,g3,g4,g5,g6,g7,.slice Ax8 lx8 cx8,g9,g10,g11,g12,g13,g14,g15,g16,g17,g18,g19,g20,g21,g22,g23,g24,g25,g26,g27,g28,g29,g30,g31,g32,g33,g34,g35,g36,g37,g38,g39,g40,.slice Ax8 lx8 cx8,.int .i64 ((lx8 : Int)),.int .i64 (IntKind.i64.wrap (((lx8 : Int)) - 1)),.int .i64 0,g45,g46,g47,g48,g49,g50,g51,g52,g53,g54,g55,g56,g57,g58,g59,g60,g61,g62,g63,g64,g65,g66,g67,g68,g69,g70,g71,g72,g73,g74,g75,g76,g77,g78,g79,g80,g81] M := by kernel_rfl
theorem k16_33 : P16 [1,1,1,1,1,0,1,0,0,1,1,0,0,1,1] = .block 2 (P16 [1,1,1,1,1,0,1,0,0,1,1,0,0,1,1,0]) := by kernel_rfl
theorem k16_34 : P16 [1,1,1,1,1,0,1,0,0,1,1,0,0,1,1,0] = .loop (P16 [1,1,1,1,1,0,1,0,0,1,1,0,0,1,1,0,0]) := by kernel_rfl
theorem k16_35 : P16 [1,1,1,1,1,0,1,0,0,1,0,1] = .exit 0 := by kernel_rfl
theorem k16_36 : P16 [1,1,1,1,1,1] = .seq (P16 [1,1,1,1,1,1,0]) (P16 [1,1,1,1,1,1,1]) := by kernel_rfl
theorem k16_37 : P16 [1,1,1,1,1,1,0] = .region 15 (O16 [1,1,1,1,1,1,0]) false := by kernel_rfl
theorem r16_15 {Ax12 : Option Addr} {lx12 cx12 : Nat} {M : Mem} {call : CallM} {K : Array Value → Mem → R} :
    opsK Try.prog (fun _ => call) (O16 [1,1,1,1,1,1,0]) (O16 [1,1,1,1,1,1,0]).toList 0 #[g0,g1,g2,g3,g4,g5,g6,g7,g8,g9,g10,g11,.slice Ax12 lx12 cx12,g13,g14,g15,g16,g17,g18,g19,g20,g21,g22,g23,g24,g25,g26,g27,g28,g29,g30,g31,g32,g33,g34,g35,g36,g37,g38,g39,g40,g41,g42,g43,g44,g45,g46,g47,g48,g49,g50,g51,g52,g53,g54,g55,g56,g57,g58,g59,g60,g61,g62,g63,g64,g65,g66,g67,g68,g69,g70,g71,g72,g73,g74,g75,g76,g77,g78,g79,g80,g81] M K = K #[g0,g1,g2,g3,g4,g5,.slice Ax12 lx12 cx12,.int .i64 0,g8,g9,g10,g11,.slice Ax12 lx12 cx12,g13,g14,g15,g16,g17,g18,g19,g20,g21,g22,g23,g24,g25,g26,g27,g28,g29,g30,g31,g32,g33,g34,g35,g36,g37,g38,g39,g40,g41,g42,g43,g44,g45,g46,g47,g48,g49,g50,g51,g52,g53,g54,g55,g56,g57,g58,g59,g60,g61,g62,g63,g64,g65,g66,g67,g68,g69,g70,g71,g72,g73,g74,g75,g76,g77,g78,g79,g80,.slice Ax12 lx12 cx12] M := by kernel_rfl
theorem k16_38 : P16 [1,1,1,1,1,1,1] = .ret := by kernel_rfl
theorem k16_39 : P16 [1,1,1,1,1,0,1,0,0,1,1,0,0,1,1,0,0] = .seq (P16 [1,1,1,1,1,0,1,0,0,1,1,0,0,1,1,0,0,0]) (P16 [1,1,1,1,1,0,1,0,0,1,1,0,0,1,1,0,0,1]) := by kernel_rfl
theorem k16_40 : P16 [1,1,1,1,1,0,1,0,0,1,1,0,0,1,1,0,0,0] = .region 10 (O16 [1,1,1,1,1,0,1,0,0,1,1,0,0,1,1,0,0,0]) false := by kernel_rfl
theorem r16_10 {x43 x44 : Int} {M : Mem} {call : CallM} {K : Array Value → Mem → R} :
    opsK Try.prog (fun _ => call) (O16 [1,1,1,1,1,0,1,0,0,1,1,0,0,1,1,0,0,0]) (O16 [1,1,1,1,1,0,1,0,0,1,1,0,0,1,1,0,0,0]).toList 0 #[g0,g1,g2,g3,g4,g5,g6,g7,g8,g9,g10,g11,g12,g13,g14,g15,g16,g17,g18,g19,g20,g21,g22,g23,g24,g25,g26,g27,g28,g29,g30,g31,g32,g33,g34,g35,g36,g37,g38,g39,g40,g41,g42,.int .i64 x43,.int .i64 x44,g45,g46,g47,g48,g49,g50,g51,g52,g53,g54,g55,g56,g57,g58,g59,g60,g61,g62,g63,g64,g65,g66,g67,g68,g69,g70,g71,g72,g73,g74,g75,g76,g77,g78,g79,g80,g81] M K = K #[g0,g1,g2,g3,g4,g5,g6,g7,g8,g9,g10,g11,g12,g13,g14,g15,g16,g17,g18,g19,g20,g21,g22,g23,g24,g25,g26,g27,g28,g29,g30,g31,g32,g33,g34,g35,g36,g37,g38,g39,g40,g41,g42,.int .i64 x43,.int .i64 x44,.bool (decide (x44 < x43)),g46,g47,g48,g49,g50,g51,g52,g53,g54,g55,g56,g57,g58,g59,g60,g61,g62,g63,g64,g65,g66,g67,g68,g69,g70,g71,g72,g73,g74,g75,g76,g77,g78,g79,g80,g81] M := by kernel_rfl
theorem k16_41 : P16 [1,1,1,1,1,0,1,0,0,1,1,0,0,1,1,0,0,1] = .seq (P16 [1,1,1,1,1,0,1,0,0,1,1,0,0,1,1,0,0,1,0]) (P16 [1,1,1,1,1,0,1,0,0,1,1,0,0,1,1,0,0,1,1]) := by kernel_rfl
theorem c16_42 : P16 [1,1,1,1,1,0,1,0,0,1,1,0,0,1,1,0,0,1,0] = .cond (.tmp 45) (P16 [1,1,1,1,1,0,1,0,0,1,1,0,0,1,1,0,0,1,0,0]) (P16 [1,1,1,1,1,0,1,0,0,1,1,0,0,1,1,0,0,1,0,1]) := by kernel_rfl
theorem k16_43 : P16 [1,1,1,1,1,0,1,0,0,1,1,0,0,1,1,0,0,1,0,0] = .skip := by kernel_rfl
theorem k16_44 : P16 [1,1,1,1,1,0,1,0,0,1,1,0,0,1,1,0,0,1,1] = .seq (P16 [1,1,1,1,1,0,1,0,0,1,1,0,0,1,1,0,0,1,1,0]) (P16 [1,1,1,1,1,0,1,0,0,1,1,0,0,1,1,0,0,1,1,1]) := by kernel_rfl
theorem k16_45 : P16 [1,1,1,1,1,0,1,0,0,1,1,0,0,1,1,0,0,1,1,0] = .block 3 (P16 [1,1,1,1,1,0,1,0,0,1,1,0,0,1,1,0,0,1,1,0,0]) := by kernel_rfl
theorem k16_46 : P16 [1,1,1,1,1,0,1,0,0,1,1,0,0,1,1,0,0,1,1,0,0] = .seq (P16 [1,1,1,1,1,0,1,0,0,1,1,0,0,1,1,0,0,1,1,0,0,0]) (P16 [1,1,1,1,1,0,1,0,0,1,1,0,0,1,1,0,0,1,1,0,0,1]) := by kernel_rfl
theorem k16_47 : P16 [1,1,1,1,1,0,1,0,0,1,1,0,0,1,1,0,0,1,1,0,0,0] = .region 11 (O16 [1,1,1,1,1,0,1,0,0,1,1,0,0,1,1,0,0,1,1,0,0,0]) false := by kernel_rfl
theorem r16_11 {x44 : Int} {M : Mem} {call : CallM} {K : Array Value → Mem → R} :
    opsK Try.prog (fun _ => call) (O16 [1,1,1,1,1,0,1,0,0,1,1,0,0,1,1,0,0,1,1,0,0,0]) (O16 [1,1,1,1,1,0,1,0,0,1,1,0,0,1,1,0,0,1,1,0,0,0]).toList 0 #[g0,g1,g2,g3,g4,g5,g6,g7,g8,g9,g10,g11,g12,g13,g14,g15,g16,g17,g18,g19,g20,g21,g22,g23,g24,g25,g26,g27,g28,g29,g30,g31,g32,g33,g34,g35,g36,g37,g38,g39,g40,g41,g42,g43,.int .i64 x44,g45,g46,g47,g48,g49,g50,g51,g52,g53,g54,g55,g56,g57,g58,g59,g60,g61,g62,g63,g64,g65,g66,g67,g68,g69,g70,g71,g72,g73,g74,g75,g76,g77,g78,g79,g80,g81] M K = K #[g0,g1,g2,g3,g4,g5,g6,g7,g8,g9,g10,g11,g12,g13,.int .i64 x44,g15,g16,g17,g18,g19,g20,g21,g22,g23,g24,g25,g26,g27,g28,g29,g30,g31,g32,g33,g34,g35,g36,g37,g38,g39,g40,g41,g42,g43,.int .i64 x44,g45,.int .i64 x44,g47,g48,g49,g50,g51,g52,g53,g54,g55,g56,g57,g58,g59,g60,g61,g62,g63,g64,g65,g66,g67,g68,g69,g70,g71,g72,g73,g74,g75,g76,g77,g78,g79,g80,g81] M := by kernel_rfl
theorem k16_48 : P16 [1,1,1,1,1,0,1,0,0,1,1,0,0,1,1,0,0,1,1,0,0,1] = .region 12 (O16 [1,1,1,1,1,0,1,0,0,1,1,0,0,1,1,0,0,1,1,0,0,1]) true ∧ drawOk (O16 [1,1,1,1,1,0,1,0,0,1,1,0,0,1,1,0,0,1,1,0,0,1]) = true := ⟨by kernel_rfl, by kernel_rfl⟩
theorem r16_12 {Ax8 : Option Addr} {lx8 cx8 : Nat} {Ax10 : Option Addr} {lx10 cx10 : Nat} {Ax12 : Option Addr} {lx12 cx12 : Nat} {x13 x14 : Int} {M : Mem} {call : CallM} {K : Array Value → Mem → R} :
    opsI Try.prog (callAt call (O16 [1,1,1,1,1,0,1,0,0,1,1,0,0,1,1,0,0,1,1,0,0,1])) (O16 [1,1,1,1,1,0,1,0,0,1,1,0,0,1,1,0,0,1,1,0,0,1]) (ordOf (O16 [1,1,1,1,1,0,1,0,0,1,1,0,0,1,1,0,0,1,1,0,0,1])) [] #[g0,g1,g2,g3,g4,g5,g6,g7,.slice Ax8 lx8 cx8,g9,.slice Ax10 lx10 cx10,g11,.slice Ax12 lx12 cx12,.int .i64 x13,.int .i64 x14,g15,g16,g17,g18,g19,g20,g21,g22,g23,g24,g25,g26,g27,g28,g29,g30,g31,g32,g33,g34,g35,g36,g37,g38,g39,g40,g41,g42,g43,g44,g45,g46,g47,g48,g49,g50,g51,g52,g53,g54,g55,g56,g57,g58,g59,g60,g61,g62,g63,g64,g65,g66,g67,g68,g69,g70,g71,g72,g73,g74,g75,g76,g77,g78,g79,g80,g81] M K = (idxA Ax8 lx8 1 x14).bind fun a_1 => (M.intAt .i64 a_1.block a_1.off).bind fun x_2 => (idxA Ax10 lx10 1 x13).bind fun a_3 => (M.intAt .i64 a_3.block a_3.off).bind fun x_4 => (idxA Ax8 lx8 1 (IntKind.i64.wrap (x14 + 1))).bind fun a_5 => (M.intAt .i64 a_5.block a_5.off).bind fun x_6 => (idxA Ax8 lx8 1 x14).bind fun a_7 => (M.intAt .i64 a_7.block a_7.off).bind fun x_8 => (idxA Ax10 lx10 1 (IntKind.i64.wrap (x13 + 1))).bind fun a_9 => (M.intAt .i64 a_9.block a_9.off).bind fun x_10 => (idxA Ax10 lx10 1 x13).bind fun a_11 => (M.intAt .i64 a_11.block a_11.off).bind fun x_12 => (appendP Try.prog #[36, 36] (.slice Ax12 lx12 cx12) (.slice (some ⟨2 * M.nb.size, 0, none⟩) 1 1) (M.new (.cells #[.int .i64 x_2, .int .i64 x_4, .int .i64 (IntKind.i64.wrap (x_6 - x_8)), .int .i64 (IntKind.i64.wrap (x_10 - x_12))] 35))).bind fun r_13 => (asS r_13.1).bind fun s_14 => K #[g0,g1,g2,g3,g4,g5,g6,g7,.slice Ax8 lx8 cx8,g9,.slice Ax10 lx10 cx10,g11,.slice s_14.1 (s_14.2.1) (s_14.2.2),.int .i64 x13,.int .i64 x14,g15,g16,g17,g18,g19,g20,g21,g22,g23,g24,g25,g26,g27,g28,g29,g30,g31,g32,g33,g34,g35,g36,g37,g38,g39,g40,g41,g42,g43,g44,g45,g46,.slice Ax12 lx12 cx12,.slice Ax8 lx8 cx8,.int .i64 x14,.pointer (some a_1),.int .i64 x_2,.slice Ax10 lx10 cx10,.int .i64 x13,.pointer (some a_3),.int .i64 x_4,.slice Ax8 lx8 cx8,.int .i64 x14,.int .i64 (IntKind.i64.wrap (x14 + 1)),.pointer (some a_5),.int .i64 x_6,.slice Ax8 lx8 cx8,.int .i64 x14,.pointer (some a_7),.int .i64 x_8,.int .i64 (IntKind.i64.wrap (x_6 - x_8)),.slice Ax10 lx10 cx10,.int .i64 x13,.int .i64 (IntKind.i64.wrap (x13 + 1)),.pointer (some a_9),.int .i64 x_10,.slice Ax10 lx10 cx10,.int .i64 x13,.pointer (some a_11),.int .i64 x_12,.int .i64 (IntKind.i64.wrap (x_10 - x_12)),.agg #[.int .i64 x_2, .int .i64 x_4, .int .i64 (IntKind.i64.wrap (x_6 - x_8)), .int .i64 (IntKind.i64.wrap (x_10 - x_12))],.slice (some ⟨2 * M.nb.size, 0, none⟩) 1 1,.slice s_14.1 (s_14.2.1) (s_14.2.2),g79,g80,g81] r_13.2 := by kernel_rfl
theorem k16_49 : P16 [1,1,1,1,1,0,1,0,0,1,1,0,0,1,1,0,0,1,1,1] = .region 13 (O16 [1,1,1,1,1,0,1,0,0,1,1,0,0,1,1,0,0,1,1,1]) false := by kernel_rfl
theorem r16_13 {x44 : Int} {M : Mem} {call : CallM} {K : Array Value → Mem → R} :
    opsK Try.prog (fun _ => call) (O16 [1,1,1,1,1,0,1,0,0,1,1,0,0,1,1,0,0,1,1,1]) (O16 [1,1,1,1,1,0,1,0,0,1,1,0,0,1,1,0,0,1,1,1]).toList 0 #[g0,g1,g2,g3,g4,g5,g6,g7,g8,g9,g10,g11,g12,g13,g14,g15,g16,g17,g18,g19,g20,g21,g22,g23,g24,g25,g26,g27,g28,g29,g30,g31,g32,g33,g34,g35,g36,g37,g38,g39,g40,g41,g42,g43,.int .i64 x44,g45,g46,g47,g48,g49,g50,g51,g52,g53,g54,g55,g56,g57,g58,g59,g60,g61,g62,g63,g64,g65,g66,g67,g68,g69,g70,g71,g72,g73,g74,g75,g76,g77,g78,g79,g80,g81] M K = K #[g0,g1,g2,g3,g4,g5,g6,g7,g8,g9,g10,g11,g12,g13,g14,g15,g16,g17,g18,g19,g20,g21,g22,g23,g24,g25,g26,g27,g28,g29,g30,g31,g32,g33,g34,g35,g36,g37,g38,g39,g40,g41,g42,g43,.int .i64 (IntKind.i64.wrap (x44 + 1)),g45,g46,g47,g48,g49,g50,g51,g52,g53,g54,g55,g56,g57,g58,g59,g60,g61,g62,g63,g64,g65,g66,g67,g68,g69,g70,g71,g72,g73,g74,g75,g76,g77,g78,.int .i64 (IntKind.i64.wrap (x44 + 1)),g80,g81] M := by kernel_rfl
theorem k16_50 : P16 [1,1,1,1,1,0,1,0,0,1,1,0,0,1,1,0,0,1,0,1] = .exit 2 := by kernel_rfl
theorem k16_51 : P16 [1,1,1,1,1,0,1,0,0,1,1,1] = .region 14 (O16 [1,1,1,1,1,0,1,0,0,1,1,1]) false := by kernel_rfl
theorem r16_14 {x38 : Int} {M : Mem} {call : CallM} {K : Array Value → Mem → R} :
    opsK Try.prog (fun _ => call) (O16 [1,1,1,1,1,0,1,0,0,1,1,1]) (O16 [1,1,1,1,1,0,1,0,0,1,1,1]).toList 0 #[g0,g1,g2,g3,g4,g5,g6,g7,g8,g9,g10,g11,g12,g13,g14,g15,g16,g17,g18,g19,g20,g21,g22,g23,g24,g25,g26,g27,g28,g29,g30,g31,g32,g33,g34,g35,g36,g37,.int .i64 x38,g39,g40,g41,g42,g43,g44,g45,g46,g47,g48,g49,g50,g51,g52,g53,g54,g55,g56,g57,g58,g59,g60,g61,g62,g63,g64,g65,g66,g67,g68,g69,g70,g71,g72,g73,g74,g75,g76,g77,g78,g79,g80,g81] M K = K #[g0,g1,g2,g3,g4,g5,g6,g7,g8,g9,g10,g11,g12,g13,g14,g15,g16,g17,g18,g19,g20,g21,g22,g23,g24,g25,g26,g27,g28,g29,g30,g31,g32,g33,g34,g35,g36,g37,.int .i64 (IntKind.i64.wrap (x38 + 1)),g39,g40,g41,g42,g43,g44,g45,g46,g47,g48,g49,g50,g51,g52,g53,g54,g55,g56,g57,g58,g59,g60,g61,g62,g63,g64,g65,g66,g67,g68,g69,g70,g71,g72,g73,g74,g75,g76,g77,g78,g79,.int .i64 (IntKind.i64.wrap (x38 + 1)),g81] M := by kernel_rfl
noncomputable def S16_1 : List Item := [.code (P16 [1,1,1,0,1]), .code (P16 [1,1,1,1])]
def A16_1 (Ax8 : Option Addr) (lx8 cx8 : Nat) (Ax10 : Option Addr) (lx10 cx10 : Nat) (x34 : Bool) (M : Mem) (Q : Value → Mem → Prop) : Prop := ∀ (g0 g1 g2 g3 g4 g5 g6 g7 g9 g11 g12 g13 g14 g15 g16 g17 g18 g19 g20 g21 g22 g23 g24 g25 g26 g27 g28 g29 g30 g31 g32 g33 g35 g36 g37 g38 g39 g40 g41 g42 g43 g44 g45 g46 g47 g48 g49 g50 g51 g52 g53 g54 g55 g56 g57 g58 g59 g60 g61 g62 g63 g64 g65 g66 g67 g68 g69 g70 g71 g72 g73 g74 g75 g76 g77 g78 g79 g80 g81 : Value), Rn Try.prog Try.f16 S16_1 #[g0, g1, g2, g3, g4, g5, g6, g7, .slice Ax8 lx8 cx8, g9, .slice Ax10 lx10 cx10, g11, g12, g13, g14, g15, g16, g17, g18, g19, g20, g21, g22, g23, g24, g25, g26, g27, g28, g29, g30, g31, g32, g33, .bool x34, g35, g36, g37, g38, g39, g40, g41, g42, g43, g44, g45, g46, g47, g48, g49, g50, g51, g52, g53, g54, g55, g56, g57, g58, g59, g60, g61, g62, g63, g64, g65, g66, g67, g68, g69, g70, g71, g72, g73, g74, g75, g76, g77, g78, g79, g80, g81] M Q
noncomputable def S16_2 : List Item := [.code (P16 [1,1,1,1,1,0,1,0,0]), .inLoop (P16 [1,1,1,1,1,0,1,0,0]), .inBlock 0, .code (P16 [1,1,1,1,1,1])]
def A16_2 (Ax8 : Option Addr) (lx8 cx8 : Nat) (Ax10 : Option Addr) (lx10 cx10 : Nat) (Ax12 : Option Addr) (lx12 cx12 : Nat) (x37 x38 : Int) (M : Mem) (Q : Value → Mem → Prop) : Prop := ∀ (g0 g1 g2 g3 g4 g5 g6 g7 g9 g11 g13 g14 g15 g16 g17 g18 g19 g20 g21 g22 g23 g24 g25 g26 g27 g28 g29 g30 g31 g32 g33 g34 g35 g36 g39 g40 g41 g42 g43 g44 g45 g46 g47 g48 g49 g50 g51 g52 g53 g54 g55 g56 g57 g58 g59 g60 g61 g62 g63 g64 g65 g66 g67 g68 g69 g70 g71 g72 g73 g74 g75 g76 g77 g78 g79 g80 g81 : Value), Rn Try.prog Try.f16 S16_2 #[g0, g1, g2, g3, g4, g5, g6, g7, .slice Ax8 lx8 cx8, g9, .slice Ax10 lx10 cx10, g11, .slice Ax12 lx12 cx12, g13, g14, g15, g16, g17, g18, g19, g20, g21, g22, g23, g24, g25, g26, g27, g28, g29, g30, g31, g32, g33, g34, g35, g36, .int .i64 x37, .int .i64 x38, g39, g40, g41, g42, g43, g44, g45, g46, g47, g48, g49, g50, g51, g52, g53, g54, g55, g56, g57, g58, g59, g60, g61, g62, g63, g64, g65, g66, g67, g68, g69, g70, g71, g72, g73, g74, g75, g76, g77, g78, g79, g80, g81] M Q
noncomputable def S16_3 : List Item := [.code (P16 [1,1,1,1,1,0,1,0,0,1,1,0,0,1,1,0,0]), .inLoop (P16 [1,1,1,1,1,0,1,0,0,1,1,0,0,1,1,0,0]), .inBlock 2, .inBlock 1, .code (P16 [1,1,1,1,1,0,1,0,0,1,1,1]), .inLoop (P16 [1,1,1,1,1,0,1,0,0]), .inBlock 0, .code (P16 [1,1,1,1,1,1])]
def A16_3 (Ax8 : Option Addr) (lx8 cx8 : Nat) (Ax10 : Option Addr) (lx10 cx10 : Nat) (Ax12 : Option Addr) (lx12 cx12 : Nat) (x13 x37 x38 x43 x44 : Int) (M : Mem) (Q : Value → Mem → Prop) : Prop := ∀ (g0 g1 g2 g3 g4 g5 g6 g7 g9 g11 g14 g15 g16 g17 g18 g19 g20 g21 g22 g23 g24 g25 g26 g27 g28 g29 g30 g31 g32 g33 g34 g35 g36 g39 g40 g41 g42 g45 g46 g47 g48 g49 g50 g51 g52 g53 g54 g55 g56 g57 g58 g59 g60 g61 g62 g63 g64 g65 g66 g67 g68 g69 g70 g71 g72 g73 g74 g75 g76 g77 g78 g79 g80 g81 : Value), Rn Try.prog Try.f16 S16_3 #[g0, g1, g2, g3, g4, g5, g6, g7, .slice Ax8 lx8 cx8, g9, .slice Ax10 lx10 cx10, g11, .slice Ax12 lx12 cx12, .int .i64 x13, g14, g15, g16, g17, g18, g19, g20, g21, g22, g23, g24, g25, g26, g27, g28, g29, g30, g31, g32, g33, g34, g35, g36, .int .i64 x37, .int .i64 x38, g39, g40, g41, g42, .int .i64 x43, .int .i64 x44, g45, g46, g47, g48, g49, g50, g51, g52, g53, g54, g55, g56, g57, g58, g59, g60, g61, g62, g63, g64, g65, g66, g67, g68, g69, g70, g71, g72, g73, g74, g75, g76, g77, g78, g79, g80, g81] M Q
theorem w16_0 {x0_0 x0_1 x1 x2 : Int} {M : Mem} {Q : Value → Mem → Prop} (H :
    ∃ x1', (M.new (.cells #[.int .i64 x0_0, .int .i64 x0_1] 32)).intAt .i64 (2 * M.nb.size) 0 = some x1' ∧
    Cn Try.prog 31 #[.int .i64 x1', .int .i64 x1] (M.new (.cells #[.int .i64 x0_0, .int .i64 x0_1] 32)) fun v2' N2' =>
     ∃ cs3', asU 2 v2' = some cs3' ∧
     ∃ s4', asS (cs3'.getD 0 undef) = some s4' ∧
     ∃ b5', asB (cs3'.getD 1 undef) = some b5' ∧
     ∃ x6', N2'.intAt .i64 (2 * M.nb.size) (0 + 1) = some x6' ∧
     Cn Try.prog 31 #[.int .i64 x6', .int .i64 x2] N2' fun v7' N7' =>
      ∃ cs8', asU 2 v7' = some cs8' ∧
      ∃ s9', asS (cs8'.getD 0 undef) = some s9' ∧
      ∃ b10', asB (cs8'.getD 1 undef) = some b10' ∧
      (((!b5') = true →
       A16_1 s4'.1 s4'.2.1 s4'.2.2 s9'.1 s9'.2.1 s9'.2.2 true N7' Q) ∧
       ((!b5') = false →
       A16_1 s4'.1 s4'.2.1 s4'.2.2 s9'.1 s9'.2.1 s9'.2.2 (!b10') N7' Q))) :
    Cn Try.prog 16 #[.agg #[.int .i64 x0_0, .int .i64 x0_1], .int .i64 x1, .int .i64 x2] M Q := by
  refine Cn.of b16 d16 t16 ?_
  refine Rn.seq k16_0 (Rn.region k16_1 (fun call K => r16_0) (Rch.leaf (Rn.seq k16_2 (Rn.region k16_3 (fun call K => r16_1) (Rch.bind (x := ⟨2 * M.nb.size, 0, none⟩) rfl (Rch.ex H fun x1' H => Rch.call H fun v2' N2' H => Rch.ex H fun cs3' H => Rch.ex H fun s4' H => Rch.ex H fun b5' H => Rch.leaf ?_))))))
  refine Rn.seq k16_4 (Rn.region k16_5 (fun call K => r16_2) (Rch.bind (x := ⟨2 * M.nb.size, 0, none⟩) rfl (Rch.ex H fun x6' H => Rch.call H fun v7' N7' H => Rch.ex H fun cs8' H => Rch.ex H fun s9' H => Rch.ex H fun b10' H => Rch.leaf (Rn.seq k16_6 (Rn.seq k16_7 (Rn.region k16_8 (fun call K => r16_3) ?_))))))
  refine Rch.cB (fun h => ?_) (fun h => ?_)
  · replace H := H.1 (h)
    refine Rch.leaf ?_
    exact H _ _ _ _ _ _ _ _ _ _ _ _ _ _ _ _ _ _ _ _ _ _ _ _ _ _ _ _ _ _ _ _ _ _ _ _ _ _ _ _ _ _ _ _ _ _ _ _ _ _ _ _ _ _ _ _ _ _ _ _ _ _ _ _ _ _ _ _ _ _ _ _ _ _ _ _ _ _ _
  · replace H := H.2 (h)
    refine Rch.leaf ?_
    exact H _ _ _ _ _ _ _ _ _ _ _ _ _ _ _ _ _ _ _ _ _ _ _ _ _ _ _ _ _ _ _ _ _ _ _ _ _ _ _ _ _ _ _ _ _ _ _ _ _ _ _ _ _ _ _ _ _ _ _ _ _ _ _ _ _ _ _ _ _ _ _ _ _ _ _ _ _ _ _

theorem w16_1 {Ax8 : Option Addr} {lx8 cx8 : Nat} {Ax10 : Option Addr} {lx10 cx10 : Nat} {x34 : Bool} {M : Mem} {Q : Value → Mem → Prop} (H :
    ((x34 = true →
     Q (.tuple #[.slice none 0 0, .int .i64 2]) M) ∧
     (x34 = false →
     A16_2 Ax8 lx8 cx8 Ax10 lx10 cx10 none 0 0 (IntKind.i64.wrap (((lx10 : Int)) - 1)) 0 M Q))) :
    A16_1 Ax8 lx8 cx8 Ax10 lx10 cx10 x34 M Q := by
  intro g0 g1 g2 g3 g4 g5 g6 g7 g9 g11 g12 g13 g14 g15 g16 g17 g18 g19 g20 g21 g22 g23 g24 g25 g26 g27 g28 g29 g30 g31 g32 g33 g35 g36 g37 g38 g39 g40 g41 g42 g43 g44 g45 g46 g47 g48 g49 g50 g51 g52 g53 g54 g55 g56 g57 g58 g59 g60 g61 g62 g63 g64 g65 g66 g67 g68 g69 g70 g71 g72 g73 g74 g75 g76 g77 g78 g79 g80 g81
  refine Rn.cnd (v := x34) ⟨c16_9, rfl, by kernel_rfl⟩ (fun h => ?_) (fun h => ?_)
  · replace H := H.1 (h)
    refine Rn.seq k16_10 (Rn.region k16_11 (fun call K => r16_4) (Rch.leaf ?_))
    exact Rn.ret k16_12 e16 H
  · replace H := H.2 (h)
    refine Rn.skip k16_14 (Rn.seq k16_15 (Rn.region k16_16 (fun call K => r16_5) (Rch.leaf (Rn.seq k16_17 (Rn.seq k16_18 (Rn.region k16_19 (fun call K => r16_6) (Rch.leaf (Rn.block k16_20 (Rn.loop k16_21 ?_)))))))))
    exact H _ _ _ _ _ _ _ _ _ _ _ _ _ _ _ _ _ _ _ _ _ _ _ _ _ _ _ _ _ _ _ _ _ _ _ _ _ _ _ _ _ _ _ _ _ _ _ _ _ _ _ _ _ _ _ _ _ _ _ _ _ _ _ _ _ _ _ _ _ _ _ _ _ _ _ _ _

theorem w16_2 {Ax8 : Option Addr} {lx8 cx8 : Nat} {Ax10 : Option Addr} {lx10 cx10 : Nat} {Ax12 : Option Addr} {lx12 cx12 : Nat} {x37 x38 : Int} {M : Mem} {Q : Value → Mem → Prop} (H :
    ((x38 < x37 →
     A16_3 Ax8 lx8 cx8 Ax10 lx10 cx10 Ax12 lx12 cx12 x38 x37 x38 (IntKind.i64.wrap (((lx8 : Int)) - 1)) 0 M Q) ∧
     (¬ (x38 < x37) →
     Q (.tuple #[.slice Ax12 lx12 cx12, .int .i64 0]) M))) :
    A16_2 Ax8 lx8 cx8 Ax10 lx10 cx10 Ax12 lx12 cx12 x37 x38 M Q := by
  intro g0 g1 g2 g3 g4 g5 g6 g7 g9 g11 g13 g14 g15 g16 g17 g18 g19 g20 g21 g22 g23 g24 g25 g26 g27 g28 g29 g30 g31 g32 g33 g34 g35 g36 g39 g40 g41 g42 g43 g44 g45 g46 g47 g48 g49 g50 g51 g52 g53 g54 g55 g56 g57 g58 g59 g60 g61 g62 g63 g64 g65 g66 g67 g68 g69 g70 g71 g72 g73 g74 g75 g76 g77 g78 g79 g80 g81
  refine Rn.seq k16_22 (Rn.region k16_23 (fun call K => r16_7) (Rch.leaf (Rn.seq k16_24 ?_)))
  refine Rn.cnd (v := decide (x38 < x37)) ⟨c16_25, rfl, by kernel_rfl⟩ (fun h => ?_) (fun h => ?_)
  · replace H := H.1 (of_decide_eq_true h)
    refine Rn.skip k16_26 (Rn.seq k16_27 (Rn.block k16_28 (Rn.seq k16_29 (Rn.region k16_30 (fun call K => r16_8) (Rch.leaf (Rn.seq k16_31 (Rn.region k16_32 (fun call K => r16_9) (Rch.leaf (Rn.block k16_33 (Rn.loop k16_34 ?_))))))))))
    exact H _ _ _ _ _ _ _ _ _ _ _ _ _ _ _ _ _ _ _ _ _ _ _ _ _ _ _ _ _ _ _ _ _ _ _ _ _ _ _ _ _ _ _ _ _ _ _ _ _ _ _ _ _ _ _ _ _ _ _ _ _ _ _ _ _ _ _ _ _ _ _ _ _ _
  · replace H := H.2 (of_decide_eq_false h)
    refine Rn.exit k16_35 rfl (Rn.seq k16_36 (Rn.region k16_37 (fun call K => r16_15) (Rch.leaf ?_)))
    exact Rn.ret k16_38 e16 H

theorem w16_3 {Ax8 : Option Addr} {lx8 cx8 : Nat} {Ax10 : Option Addr} {lx10 cx10 : Nat} {Ax12 : Option Addr} {lx12 cx12 : Nat} {x13 x37 x38 x43 x44 : Int} {M : Mem} {Q : Value → Mem → Prop} (H :
    ((x44 < x43 →
     ∃ a11', idxA Ax8 lx8 1 x44 = some a11' ∧
     ∃ x12', M.intAt .i64 a11'.block a11'.off = some x12' ∧
     ∃ a13', idxA Ax10 lx10 1 x13 = some a13' ∧
     ∃ x14', M.intAt .i64 a13'.block a13'.off = some x14' ∧
     ∃ a15', idxA Ax8 lx8 1 (IntKind.i64.wrap (x44 + 1)) = some a15' ∧
     ∃ x16', M.intAt .i64 a15'.block a15'.off = some x16' ∧
     ∃ a17', idxA Ax8 lx8 1 x44 = some a17' ∧
     ∃ x18', M.intAt .i64 a17'.block a17'.off = some x18' ∧
     ∃ a19', idxA Ax10 lx10 1 (IntKind.i64.wrap (x13 + 1)) = some a19' ∧
     ∃ x20', M.intAt .i64 a19'.block a19'.off = some x20' ∧
     ∃ a21', idxA Ax10 lx10 1 x13 = some a21' ∧
     ∃ x22', M.intAt .i64 a21'.block a21'.off = some x22' ∧
     ∃ r23', appendP Try.prog #[36, 36] (.slice Ax12 lx12 cx12) (.slice (some ⟨2 * M.nb.size, 0, none⟩) 1 1) (M.new (.cells #[.int .i64 x12', .int .i64 x14', .int .i64 (IntKind.i64.wrap (x16' - x18')), .int .i64 (IntKind.i64.wrap (x20' - x22'))] 35)) = some r23' ∧
     ∃ s24', asS r23'.1 = some s24' ∧
     A16_3 Ax8 lx8 cx8 Ax10 lx10 cx10 s24'.1 s24'.2.1 s24'.2.2 x13 x37 x38 x43 (IntKind.i64.wrap (x44 + 1)) r23'.2 Q) ∧
     (¬ (x44 < x43) →
     A16_2 Ax8 lx8 cx8 Ax10 lx10 cx10 Ax12 lx12 cx12 x37 (IntKind.i64.wrap (x38 + 1)) M Q))) :
    A16_3 Ax8 lx8 cx8 Ax10 lx10 cx10 Ax12 lx12 cx12 x13 x37 x38 x43 x44 M Q := by
  intro g0 g1 g2 g3 g4 g5 g6 g7 g9 g11 g14 g15 g16 g17 g18 g19 g20 g21 g22 g23 g24 g25 g26 g27 g28 g29 g30 g31 g32 g33 g34 g35 g36 g39 g40 g41 g42 g45 g46 g47 g48 g49 g50 g51 g52 g53 g54 g55 g56 g57 g58 g59 g60 g61 g62 g63 g64 g65 g66 g67 g68 g69 g70 g71 g72 g73 g74 g75 g76 g77 g78 g79 g80 g81
  refine Rn.seq k16_39 (Rn.region k16_40 (fun call K => r16_10) (Rch.leaf (Rn.seq k16_41 ?_)))
  refine Rn.cnd (v := decide (x44 < x43)) ⟨c16_42, rfl, by kernel_rfl⟩ (fun h => ?_) (fun h => ?_)
  · replace H := H.1 (of_decide_eq_true h)
    refine Rn.skip k16_43 (Rn.seq k16_44 (Rn.block k16_45 (Rn.seq k16_46 (Rn.region k16_47 (fun call K => r16_11) (Rch.leaf (Rn.regionD k16_48 (fun call K => r16_12) (Rch.ex H fun a11' H => Rch.ex H fun x12' H => Rch.ex H fun a13' H => Rch.ex H fun x14' H => Rch.ex H fun a15' H => ?_)))))))
    refine Rch.ex H fun x16' H => Rch.ex H fun a17' H => Rch.ex H fun x18' H => Rch.ex H fun a19' H => Rch.ex H fun x20' H => Rch.ex H fun a21' H => Rch.ex H fun x22' H => Rch.ex H fun r23' H => Rch.ex H fun s24' H => Rch.leaf (Rn.blk (Rn.region k16_49 (fun call K => r16_13) ?_))
    refine Rch.leaf (Rn.lp ?_)
    exact H _ _ _ _ _ _ _ _ _ _ _ _ _ _ _ _ _ _ _ _ _ _ _ _ _ _ _ _ _ _ _ _ _ _ _ _ _ _ _ _ _ _ _ _ _ _ _ _ _ _ _ _ _ _ _ _ _ _ _ _ _ _ _ _ _ _ _ _ _ _ _ _ _ _
  · replace H := H.2 (of_decide_eq_false h)
    refine Rn.exit k16_50 rfl (Rn.blk (Rn.region k16_51 (fun call K => r16_14) (Rch.leaf (Rn.lp ?_))))
    exact H _ _ _ _ _ _ _ _ _ _ _ _ _ _ _ _ _ _ _ _ _ _ _ _ _ _ _ _ _ _ _ _ _ _ _ _ _ _ _ _ _ _ _ _ _ _ _ _ _ _ _ _ _ _ _ _ _ _ _ _ _ _ _ _ _ _ _ _ _ _ _ _ _ _ _ _ _


/-! ### zoetrope/tiles.Supers: function 19 -/
noncomputable abbrev P19 (p : List Nat) : Code := subC (codeOf Try.f19) p
noncomputable abbrev O19 (p : List Nat) : Array Oper := opsOf (subC (codeOf Try.f19) p)
theorem b19 : Try.prog.funcs[19]? = some Try.f19 ∧ (Orc.tab Try.prog).lookup 19 = none := ⟨by kernel_rfl, by kernel_rfl⟩
theorem d19 : Try.f19.body = some (P19 []) := by kernel_rfl
theorem t19 {x0_0 x0_1 x0_2 x0_3 : Int} : #[.agg #[.int .i64 x0_0, .int .i64 x0_1, .int .i64 x0_2, .int .i64 x0_3]] ++ Array.replicate (Try.f19.ntmps - (#[.agg #[.int .i64 x0_0, .int .i64 x0_1, .int .i64 x0_2, .int .i64 x0_3]] : Array Value).size) undef = #[.agg #[.int .i64 x0_0, .int .i64 x0_1, .int .i64 x0_2, .int .i64 x0_3],undef,undef,undef,undef,undef,undef,undef,undef,undef,undef,undef,undef,undef,undef,undef,undef,undef,undef,undef,undef,undef,undef,undef,undef,undef,undef,undef,undef,undef,undef,undef,undef,undef,undef,undef,undef,undef,undef,undef,undef,undef,undef,undef,undef,undef,undef,undef,undef,undef,undef,undef,undef,undef,undef,undef,undef] := by kernel_rfl
theorem k19_0 : P19 [] = .seq (P19 [0]) (P19 [1]) := by kernel_rfl
theorem k19_1 : P19 [0] = .region 0 (O19 [0]) false := by kernel_rfl
theorem r19_0 {x0_0 x0_1 x0_2 x0_3 : Int} {M : Mem} {call : CallM} {K : Array Value → Mem → R} :
    opsK Try.prog (fun _ => call) (O19 [0]) (O19 [0]).toList 0 #[.agg #[.int .i64 x0_0, .int .i64 x0_1, .int .i64 x0_2, .int .i64 x0_3],g1,g2,g3,g4,g5,g6,g7,g8,g9,g10,g11,g12,g13,g14,g15,g16,g17,g18,g19,g20,g21,g22,g23,g24,g25,g26,g27,g28,g29,g30,g31,g32,g33,g34,g35,g36,g37,g38,g39,g40,g41,g42,g43,g44,g45,g46,g47,g48,g49,g50,g51,g52,g53,g54,g55,g56] M K = K #[.agg #[.int .i64 x0_0, .int .i64 x0_1, .int .i64 x0_2, .int .i64 x0_3],.pointer (some ⟨2 * M.nb.size, 0, none⟩),.slice none 0 0,g3,g4,g5,g6,g7,g8,g9,g10,g11,g12,g13,g14,g15,g16,g17,g18,g19,g20,g21,g22,g23,g24,g25,g26,g27,g28,g29,g30,g31,g32,g33,g34,g35,g36,g37,g38,g39,g40,g41,g42,g43,g44,g45,g46,g47,g48,g49,g50,g51,g52,g53,g54,g55,g56] (M.new (.cells #[.int .i64 x0_0, .int .i64 x0_1, .int .i64 x0_2, .int .i64 x0_3] 35)) := by kernel_rfl
theorem k19_2 : P19 [1] = .seq (P19 [1,0]) (P19 [1,1]) := by kernel_rfl
theorem k19_3 : P19 [1,0] = .seq (P19 [1,0,0]) (P19 [1,0,1]) := by kernel_rfl
theorem k19_5 : P19 [1,0,0] = .region 1 (O19 [1,0,0]) false ∧ (!false || drawOk (O19 [1,0,0])) = true := ⟨by kernel_rfl, by kernel_rfl⟩
theorem r19_1p0 {x1 : Option Addr} {M : Mem} {call : CallM} {K : Array Value → Mem → R} :
    segK Try.prog false call (O19 [1,0,0]) 0 11 #[g0,.pointer x1,g2,g3,g4,g5,g6,g7,g8,g9,g10,g11,g12,g13,g14,g15,g16,g17,g18,g19,g20,g21,g22,g23,g24,g25,g26,g27,g28,g29,g30,g31,g32,g33,g34,g35,g36,g37,g38,g39,g40,g41,g42,g43,g44,g45,g46,g47,g48,g49,g50,g51,g52,g53,g54,g55,g56] M K = withK (fun w6 w7 w8 w9 w10 w11 w12 w13 w14 w15 w16 M => K #[g0,.pointer x1,g2,g3,g4,g5,w6,w7,w8,w9,w10,w11,w12,w13,w14,w15,w16,g17,g18,g19,g20,g21,g22,g23,g24,g25,g26,g27,g28,g29,g30,g31,g32,g33,g34,g35,g36,g37,g38,g39,g40,g41,g42,g43,g44,g45,g46,g47,g48,g49,g50,g51,g52,g53,g54,g55,g56] M) fun k => (x1).bind fun a_1 => (M.intAt .i64 a_1.block (a_1.off + 2)).bind fun x_2 => (call 35 #[.int .i64 x_2, .int .i64 1, .int .i64 256] M).bind fun r_3 => (asB r_3.1).bind fun b_4 => cond (!b_4) (k (.pointer (some ⟨a_1.block, a_1.off + 2, none⟩)) (.int .i64 x_2) (.bool b_4) (.bool (!b_4)) (.bool true) undef undef undef undef (.bool true) (.bool true) r_3.2) ((x1).bind fun a_5 => (r_3.2.intAt .i64 a_5.block (a_5.off + 3)).bind fun x_6 => (call 35 #[.int .i64 x_6, .int .i64 1, .int .i64 256] r_3.2).bind fun r_7 => (asB r_7.1).bind fun b_8 => k (.pointer (some ⟨a_1.block, a_1.off + 2, none⟩)) (.int .i64 x_2) (.bool b_4) (.bool (!b_4)) (.bool false) (.pointer (some ⟨a_5.block, a_5.off + 3, none⟩)) (.int .i64 x_6) (.bool b_8) (.bool (!b_8)) (.bool (!b_8)) (.bool (!b_8)) r_7.2) := by kernel_rfl
theorem r19_1p11 {x1 : Option Addr} {x16 : Bool} {M : Mem} {call : CallM} {K : Array Value → Mem → R} :
    segK Try.prog false call (O19 [1,0,0]) 11 6 #[g0,.pointer x1,g2,g3,g4,g5,g6,g7,g8,g9,g10,g11,g12,g13,g14,g15,.bool x16,g17,g18,g19,g20,g21,g22,g23,g24,g25,g26,g27,g28,g29,g30,g31,g32,g33,g34,g35,g36,g37,g38,g39,g40,g41,g42,g43,g44,g45,g46,g47,g48,g49,g50,g51,g52,g53,g54,g55,g56] M K = withK (fun w16 w17 w18 w19 w20 w21 w22 M => K #[g0,.pointer x1,g2,g3,g4,g5,g6,g7,g8,g9,g10,g11,g12,g13,g14,g15,w16,w17,w18,w19,w20,w21,w22,g23,g24,g25,g26,g27,g28,g29,g30,g31,g32,g33,g34,g35,g36,g37,g38,g39,g40,g41,g42,g43,g44,g45,g46,g47,g48,g49,g50,g51,g52,g53,g54,g55,g56] M) fun k => cond x16 (k (.bool true) undef undef undef undef (.bool true) (.bool true) M) ((x1).bind fun a_1 => (M.intAt .i64 a_1.block a_1.off).bind fun x_2 => (call 35 #[.int .i64 x_2, .int .i64 0, .int .i64 256] M).bind fun r_3 => (asB r_3.1).bind fun b_4 => k (.bool false) (.pointer (some ⟨a_1.block, a_1.off, none⟩)) (.int .i64 x_2) (.bool b_4) (.bool (!b_4)) (.bool (!b_4)) (.bool (!b_4)) r_3.2) := by kernel_rfl
theorem r19_1p17 {x1 : Option Addr} {x22 : Bool} {M : Mem} {call : CallM} {K : Array Value → Mem → R} :
    segK Try.prog false call (O19 [1,0,0]) 17 5 #[g0,.pointer x1,g2,g3,g4,g5,g6,g7,g8,g9,g10,g11,g12,g13,g14,g15,g16,g17,g18,g19,g20,g21,.bool x22,g23,g24,g25,g26,g27,g28,g29,g30,g31,g32,g33,g34,g35,g36,g37,g38,g39,g40,g41,g42,g43,g44,g45,g46,g47,g48,g49,g50,g51,g52,g53,g54,g55,g56] M K = withK (fun w22 w23 w24 w25 w26 w27 M => K #[g0,.pointer x1,g2,g3,g4,g5,g6,g7,g8,g9,g10,g11,g12,g13,g14,g15,g16,g17,g18,g19,g20,g21,w22,w23,w24,w25,w26,w27,g28,g29,g30,g31,g32,g33,g34,g35,g36,g37,g38,g39,g40,g41,g42,g43,g44,g45,g46,g47,g48,g49,g50,g51,g52,g53,g54,g55,g56] M) fun k => cond x22 (k (.bool true) undef undef undef undef (.bool true) M) ((x1).bind fun a_1 => (M.intAt .i64 a_1.block (a_1.off + 1)).bind fun x_2 => (call 35 #[.int .i64 x_2, .int .i64 0, .int .i64 256] M).bind fun r_3 => (asB r_3.1).bind fun b_4 => k (.bool false) (.pointer (some ⟨a_1.block, a_1.off + 1, none⟩)) (.int .i64 x_2) (.bool b_4) (.bool (!b_4)) (.bool (!b_4)) r_3.2) := by kernel_rfl
theorem c19_6 : P19 [1,0,1] = .cond (.tmp 27) (P19 [1,0,1,0]) (P19 [1,0,1,1]) := by kernel_rfl
theorem k19_7 : P19 [1,0,1,0] = .seq (P19 [1,0,1,0,0]) (P19 [1,0,1,0,1]) := by kernel_rfl
theorem k19_8 : P19 [1,0,1,0,0] = .region 2 (O19 [1,0,1,0,0]) false := by kernel_rfl
theorem r19_2 {M : Mem} {call : CallM} {K : Array Value → Mem → R} :
    opsK Try.prog (fun _ => call) (O19 [1,0,1,0,0]) (O19 [1,0,1,0,0]).toList 0 #[g0,g1,g2,g3,g4,g5,g6,g7,g8,g9,g10,g11,g12,g13,g14,g15,g16,g17,g18,g19,g20,g21,g22,g23,g24,g25,g26,g27,g28,g29,g30,g31,g32,g33,g34,g35,g36,g37,g38,g39,g40,g41,g42,g43,g44,g45,g46,g47,g48,g49,g50,g51,g52,g53,g54,g55,g56] M K = K #[g0,g1,.slice none 0 0,g3,g4,g5,g6,g7,g8,g9,g10,g11,g12,g13,g14,g15,g16,g17,g18,g19,g20,g21,g22,g23,g24,g25,g26,g27,g28,g29,g30,g31,g32,g33,g34,g35,g36,g37,g38,g39,g40,g41,g42,g43,g44,g45,g46,g47,g48,g49,g50,g51,g52,g53,g54,g55,g56] M := by kernel_rfl
theorem k19_9 : P19 [1,0,1,0,1] = .ret := by kernel_rfl
theorem e19 {M : Mem} : finish Try.prog Try.f19 #[g0,g1,g2,g3,g4,g5,g6,g7,g8,g9,g10,g11,g12,g13,g14,g15,g16,g17,g18,g19,g20,g21,g22,g23,g24,g25,g26,g27,g28,g29,g30,g31,g32,g33,g34,g35,g36,g37,g38,g39,g40,g41,g42,g43,g44,g45,g46,g47,g48,g49,g50,g51,g52,g53,g54,g55,g56] M = some (g2, M) := by kernel_rfl
theorem k19_11 : P19 [1,0,1,1] = .skip := by kernel_rfl
theorem k19_12 : P19 [1,1] = .seq (P19 [1,1,0]) (P19 [1,1,1]) := by kernel_rfl
theorem k19_13 : P19 [1,1,0] = .region 3 (O19 [1,1,0]) false := by kernel_rfl
theorem r19_3 {M : Mem} {call : CallM} {K : Array Value → Mem → R} :
    opsK Try.prog (fun _ => call) (O19 [1,1,0]) (O19 [1,1,0]).toList 0 #[g0,g1,g2,g3,g4,g5,g6,g7,g8,g9,g10,g11,g12,g13,g14,g15,g16,g17,g18,g19,g20,g21,g22,g23,g24,g25,g26,g27,g28,g29,g30,g31,g32,g33,g34,g35,g36,g37,g38,g39,g40,g41,g42,g43,g44,g45,g46,g47,g48,g49,g50,g51,g52,g53,g54,g55,g56] M K = K #[g0,g1,g2,.slice none 0 0,g4,g5,g6,g7,g8,g9,g10,g11,g12,g13,g14,g15,g16,g17,g18,g19,g20,g21,g22,g23,g24,g25,g26,g27,g28,g29,g30,g31,g32,g33,g34,g35,g36,g37,g38,g39,g40,g41,g42,g43,g44,g45,g46,g47,g48,g49,g50,g51,g52,g53,g54,g55,g56] M := by kernel_rfl
theorem k19_14 : P19 [1,1,1] = .seq (P19 [1,1,1,0]) (P19 [1,1,1,1]) := by kernel_rfl
theorem k19_15 : P19 [1,1,1,0] = .seq (P19 [1,1,1,0,0]) (P19 [1,1,1,0,1]) := by kernel_rfl
theorem k19_16 : P19 [1,1,1,0,0] = .region 4 (O19 [1,1,1,0,0]) false := by kernel_rfl
theorem r19_4 {x1 : Option Addr} {M : Mem} {call : CallM} {K : Array Value → Mem → R} :
    opsK Try.prog (fun _ => call) (O19 [1,1,1,0,0]) (O19 [1,1,1,0,0]).toList 0 #[g0,.pointer x1,g2,g3,g4,g5,g6,g7,g8,g9,g10,g11,g12,g13,g14,g15,g16,g17,g18,g19,g20,g21,g22,g23,g24,g25,g26,g27,g28,g29,g30,g31,g32,g33,g34,g35,g36,g37,g38,g39,g40,g41,g42,g43,g44,g45,g46,g47,g48,g49,g50,g51,g52,g53,g54,g55,g56] M K = (x1).bind fun a_1 => (M.intAt .i64 a_1.block (a_1.off + 1)).bind fun x_2 => K #[g0,.pointer x1,g2,g3,.int .i64 x_2,g5,g6,g7,g8,g9,g10,g11,g12,g13,g14,g15,g16,g17,g18,g19,g20,g21,g22,g23,g24,g25,g26,g27,.pointer (some ⟨a_1.block, a_1.off + 1, none⟩),.int .i64 x_2,g30,g31,g32,g33,g34,g35,g36,g37,g38,g39,g40,g41,g42,g43,g44,g45,g46,g47,g48,g49,g50,g51,g52,g53,g54,g55,g56] M := by kernel_rfl
theorem k19_17 : P19 [1,1,1,0,1] = .block 0 (P19 [1,1,1,0,1,0]) := by kernel_rfl
theorem k19_18 : P19 [1,1,1,0,1,0] = .loop (P19 [1,1,1,0,1,0,0]) := by kernel_rfl
theorem k19_19 : P19 [1,1,1,0,1,0,0] = .seq (P19 [1,1,1,0,1,0,0,0]) (P19 [1,1,1,0,1,0,0,1]) := by kernel_rfl
theorem k19_20 : P19 [1,1,1,0,1,0,0,0] = .seq (P19 [1,1,1,0,1,0,0,0,0]) (P19 [1,1,1,0,1,0,0,0,1]) := by kernel_rfl
theorem k19_21 : P19 [1,1,1,0,1,0,0,0,0] = .region 5 (O19 [1,1,1,0,1,0,0,0,0]) false := by kernel_rfl
theorem r19_5 {x1 : Option Addr} {x4 : Int} {M : Mem} {call : CallM} {K : Array Value → Mem → R} :
    opsK Try.prog (fun _ => call) (O19 [1,1,1,0,1,0,0,0,0]) (O19 [1,1,1,0,1,0,0,0,0]).toList 0 #[g0,.pointer x1,g2,g3,.int .i64 x4,g5,g6,g7,g8,g9,g10,g11,g12,g13,g14,g15,g16,g17,g18,g19,g20,g21,g22,g23,g24,g25,g26,g27,g28,g29,g30,g31,g32,g33,g34,g35,g36,g37,g38,g39,g40,g41,g42,g43,g44,g45,g46,g47,g48,g49,g50,g51,g52,g53,g54,g55,g56] M K = (x1).bind fun a_1 => (M.intAt .i64 a_1.block (a_1.off + 1)).bind fun x_2 => (x1).bind fun a_3 => (M.intAt .i64 a_3.block (a_3.off + 3)).bind fun x_4 => K #[g0,.pointer x1,g2,g3,.int .i64 x4,g5,g6,g7,g8,g9,g10,g11,g12,g13,g14,g15,g16,g17,g18,g19,g20,g21,g22,g23,g24,g25,g26,g27,g28,g29,.int .i64 x4,.pointer (some ⟨a_1.block, a_1.off + 1, none⟩),.int .i64 x_2,.pointer (some ⟨a_3.block, a_3.off + 3, none⟩),.int .i64 x_4,.int .i64 (IntKind.i64.wrap (x_2 + x_4)),.bool (decide (x4 < (IntKind.i64.wrap (x_2 + x_4)))),g37,g38,g39,g40,g41,g42,g43,g44,g45,g46,g47,g48,g49,g50,g51,g52,g53,g54,g55,g56] M := by kernel_rfl
theorem c19_22 : P19 [1,1,1,0,1,0,0,0,1] = .cond (.tmp 36) (P19 [1,1,1,0,1,0,0,0,1,0]) (P19 [1,1,1,0,1,0,0,0,1,1]) := by kernel_rfl
theorem k19_23 : P19 [1,1,1,0,1,0,0,0,1,0] = .skip := by kernel_rfl
theorem k19_24 : P19 [1,1,1,0,1,0,0,1] = .seq (P19 [1,1,1,0,1,0,0,1,0]) (P19 [1,1,1,0,1,0,0,1,1]) := by kernel_rfl
theorem k19_25 : P19 [1,1,1,0,1,0,0,1,0] = .block 1 (P19 [1,1,1,0,1,0,0,1,0,0]) := by kernel_rfl
theorem k19_26 : P19 [1,1,1,0,1,0,0,1,0,0] = .seq (P19 [1,1,1,0,1,0,0,1,0,0,0]) (P19 [1,1,1,0,1,0,0,1,0,0,1]) := by kernel_rfl
theorem k19_27 : P19 [1,1,1,0,1,0,0,1,0,0,0] = .region 7 (O19 [1,1,1,0,1,0,0,1,0,0,0]) false := by kernel_rfl
theorem r19_7 {x1 : Option Addr} {M : Mem} {call : CallM} {K : Array Value → Mem → R} :
    opsK Try.prog (fun _ => call) (O19 [1,1,1,0,1,0,0,1,0,0,0]) (O19 [1,1,1,0,1,0,0,1,0,0,0]).toList 0 #[g0,.pointer x1,g2,g3,g4,g5,g6,g7,g8,g9,g10,g11,g12,g13,g14,g15,g16,g17,g18,g19,g20,g21,g22,g23,g24,g25,g26,g27,g28,g29,g30,g31,g32,g33,g34,g35,g36,g37,g38,g39,g40,g41,g42,g43,g44,g45,g46,g47,g48,g49,g50,g51,g52,g53,g54,g55,g56] M K = (x1).bind fun a_1 => (M.intAt .i64 a_1.block a_1.off).bind fun x_2 => K #[g0,.pointer x1,g2,g3,g4,.int .i64 x_2,g6,g7,g8,g9,g10,g11,g12,g13,g14,g15,g16,g17,g18,g19,g20,g21,g22,g23,g24,g25,g26,g27,g28,g29,g30,g31,g32,g33,g34,g35,g36,g37,g38,.pointer (some ⟨a_1.block, a_1.off, none⟩),.int .i64 x_2,g41,g42,g43,g44,g45,g46,g47,g48,g49,g50,g51,g52,g53,g54,g55,g56] M := by kernel_rfl
theorem k19_28 : P19 [1,1,1,0,1,0,0,1,0,0,1] = .block 2 (P19 [1,1,1,0,1,0,0,1,0,0,1,0]) := by kernel_rfl
theorem k19_29 : P19 [1,1,1,0,1,0,0,1,0,0,1,0] = .loop (P19 [1,1,1,0,1,0,0,1,0,0,1,0,0]) := by kernel_rfl
theorem k19_30 : P19 [1,1,1,0,1,0,0,0,1,1] = .exit 0 := by kernel_rfl
theorem k19_31 : P19 [1,1,1,1] = .seq (P19 [1,1,1,1,0]) (P19 [1,1,1,1,1]) := by kernel_rfl
theorem k19_32 : P19 [1,1,1,1,0] = .region 11 (O19 [1,1,1,1,0]) false := by kernel_rfl
theorem r19_11 {Ax3 : Option Addr} {lx3 cx3 : Nat} {M : Mem} {call : CallM} {K : Array Value → Mem → R} :
    opsK Try.prog (fun _ => call) (O19 [1,1,1,1,0]) (O19 [1,1,1,1,0]).toList 0 #[g0,g1,g2,.slice Ax3 lx3 cx3,g4,g5,g6,g7,g8,g9,g10,g11,g12,g13,g14,g15,g16,g17,g18,g19,g20,g21,g22,g23,g24,g25,g26,g27,g28,g29,g30,g31,g32,g33,g34,g35,g36,g37,g38,g39,g40,g41,g42,g43,g44,g45,g46,g47,g48,g49,g50,g51,g52,g53,g54,g55,g56] M K = K #[g0,g1,.slice Ax3 lx3 cx3,.slice Ax3 lx3 cx3,g4,g5,g6,g7,g8,g9,g10,g11,g12,g13,g14,g15,g16,g17,g18,g19,g20,g21,g22,g23,g24,g25,g26,g27,g28,g29,g30,g31,g32,g33,g34,g35,g36,g37,g38,g39,g40,g41,g42,g43,g44,g45,g46,g47,g48,g49,g50,g51,g52,g53,g54,g55,.slice Ax3 lx3 cx3] M := by kernel_rfl
theorem k19_33 : P19 [1,1,1,1,1] = .ret := by kernel_rfl
theorem k19_34 : P19 [1,1,1,0,1,0,0,1,0,0,1,0,0] = .seq (P19 [1,1,1,0,1,0,0,1,0,0,1,0,0,0]) (P19 [1,1,1,0,1,0,0,1,0,0,1,0,0,1]) := by kernel_rfl
theorem k19_35 : P19 [1,1,1,0,1,0,0,1,0,0,1,0,0,0] = .seq (P19 [1,1,1,0,1,0,0,1,0,0,1,0,0,0,0]) (P19 [1,1,1,0,1,0,0,1,0,0,1,0,0,0,1]) := by kernel_rfl
theorem k19_36 : P19 [1,1,1,0,1,0,0,1,0,0,1,0,0,0,0] = .region 8 (O19 [1,1,1,0,1,0,0,1,0,0,1,0,0,0,0]) false := by kernel_rfl
theorem r19_8 {x1 : Option Addr} {x5 : Int} {M : Mem} {call : CallM} {K : Array Value → Mem → R} :
    opsK Try.prog (fun _ => call) (O19 [1,1,1,0,1,0,0,1,0,0,1,0,0,0,0]) (O19 [1,1,1,0,1,0,0,1,0,0,1,0,0,0,0]).toList 0 #[g0,.pointer x1,g2,g3,g4,.int .i64 x5,g6,g7,g8,g9,g10,g11,g12,g13,g14,g15,g16,g17,g18,g19,g20,g21,g22,g23,g24,g25,g26,g27,g28,g29,g30,g31,g32,g33,g34,g35,g36,g37,g38,g39,g40,g41,g42,g43,g44,g45,g46,g47,g48,g49,g50,g51,g52,g53,g54,g55,g56] M K = (x1).bind fun a_1 => (M.intAt .i64 a_1.block a_1.off).bind fun x_2 => (x1).bind fun a_3 => (M.intAt .i64 a_3.block (a_3.off + 2)).bind fun x_4 => K #[g0,.pointer x1,g2,g3,g4,.int .i64 x5,g6,g7,g8,g9,g10,g11,g12,g13,g14,g15,g16,g17,g18,g19,g20,g21,g22,g23,g24,g25,g26,g27,g28,g29,g30,g31,g32,g33,g34,g35,g36,g37,g38,g39,g40,.int .i64 x5,.pointer (some ⟨a_1.block, a_1.off, none⟩),.int .i64 x_2,.pointer (some ⟨a_3.block, a_3.off + 2, none⟩),.int .i64 x_4,.int .i64 (IntKind.i64.wrap (x_2 + x_4)),.bool (decide (x5 < (IntKind.i64.wrap (x_2 + x_4)))),g48,g49,g50,g51,g52,g53,g54,g55,g56] M := by kernel_rfl
theorem c19_37 : P19 [1,1,1,0,1,0,0,1,0,0,1,0,0,0,1] = .cond (.tmp 47) (P19 [1,1,1,0,1,0,0,1,0,0,1,0,0,0,1,0]) (P19 [1,1,1,0,1,0,0,1,0,0,1,0,0,0,1,1]) := by kernel_rfl
theorem k19_38 : P19 [1,1,1,0,1,0,0,1,0,0,1,0,0,0,1,0] = .skip := by kernel_rfl
theorem k19_39 : P19 [1,1,1,0,1,0,0,1,0,0,1,0,0,1] = .seq (P19 [1,1,1,0,1,0,0,1,0,0,1,0,0,1,0]) (P19 [1,1,1,0,1,0,0,1,0,0,1,0,0,1,1]) := by kernel_rfl
theorem k19_40 : P19 [1,1,1,0,1,0,0,1,0,0,1,0,0,1,0] = .block 3 (P19 [1,1,1,0,1,0,0,1,0,0,1,0,0,1,0,0]) := by kernel_rfl
theorem k19_41 : P19 [1,1,1,0,1,0,0,1,0,0,1,0,0,1,0,0] = .region 10 (O19 [1,1,1,0,1,0,0,1,0,0,1,0,0,1,0,0]) false := by kernel_rfl
theorem r19_10 {Ax3 : Option Addr} {lx3 cx3 : Nat} {x4 x5 : Int} {M : Mem} {call : CallM} {K : Array Value → Mem → R} :
    opsK Try.prog (fun _ => call) (O19 [1,1,1,0,1,0,0,1,0,0,1,0,0,1,0,0]) (O19 [1,1,1,0,1,0,0,1,0,0,1,0,0,1,0,0]).toList 0 #[g0,g1,g2,.slice Ax3 lx3 cx3,.int .i64 x4,.int .i64 x5,g6,g7,g8,g9,g10,g11,g12,g13,g14,g15,g16,g17,g18,g19,g20,g21,g22,g23,g24,g25,g26,g27,g28,g29,g30,g31,g32,g33,g34,g35,g36,g37,g38,g39,g40,g41,g42,g43,g44,g45,g46,g47,g48,g49,g50,g51,g52,g53,g54,g55,g56] M K = (appendP Try.prog #[36, 36] (.slice Ax3 lx3 cx3) (.slice (some ⟨2 * M.nb.size, 0, none⟩) 1 1) (M.new (.cells #[.int .i64 x5, .int .i64 x4, .int .i64 64, .int .i64 64] 35))).bind fun r_1 => (asS r_1.1).bind fun s_2 => K #[g0,g1,g2,.slice s_2.1 (s_2.2.1) (s_2.2.2),.int .i64 x4,.int .i64 x5,g6,g7,g8,g9,g10,g11,g12,g13,g14,g15,g16,g17,g18,g19,g20,g21,g22,g23,g24,g25,g26,g27,g28,g29,g30,g31,g32,g33,g34,g35,g36,g37,g38,g39,g40,g41,g42,g43,g44,g45,g46,g47,g48,g49,.slice Ax3 lx3 cx3,.int .i64 x5,.int .i64 x4,.agg #[.int .i64 x5, .int .i64 x4, .int .i64 64, .int .i64 64],.slice (some ⟨2 * M.nb.size, 0, none⟩) 1 1,.slice s_2.1 (s_2.2.1) (s_2.2.2),g56] r_1.2 := by kernel_rfl
theorem k19_42 : P19 [1,1,1,0,1,0,0,1,0,0,1,0,0,1,1] = .region 9 (O19 [1,1,1,0,1,0,0,1,0,0,1,0,0,1,1]) false := by kernel_rfl
theorem r19_9 {x5 : Int} {M : Mem} {call : CallM} {K : Array Value → Mem → R} :
    opsK Try.prog (fun _ => call) (O19 [1,1,1,0,1,0,0,1,0,0,1,0,0,1,1]) (O19 [1,1,1,0,1,0,0,1,0,0,1,0,0,1,1]).toList 0 #[g0,g1,g2,g3,g4,.int .i64 x5,g6,g7,g8,g9,g10,g11,g12,g13,g14,g15,g16,g17,g18,g19,g20,g21,g22,g23,g24,g25,g26,g27,g28,g29,g30,g31,g32,g33,g34,g35,g36,g37,g38,g39,g40,g41,g42,g43,g44,g45,g46,g47,g48,g49,g50,g51,g52,g53,g54,g55,g56] M K = K #[g0,g1,g2,g3,g4,.int .i64 (IntKind.i64.wrap (x5 + 64)),g6,g7,g8,g9,g10,g11,g12,g13,g14,g15,g16,g17,g18,g19,g20,g21,g22,g23,g24,g25,g26,g27,g28,g29,g30,g31,g32,g33,g34,g35,g36,g37,g38,g39,g40,g41,g42,g43,g44,g45,g46,g47,.int .i64 x5,.int .i64 (IntKind.i64.wrap (x5 + 64)),g50,g51,g52,g53,g54,g55,g56] M := by kernel_rfl
theorem k19_43 : P19 [1,1,1,0,1,0,0,1,0,0,1,0,0,0,1,1] = .exit 2 := by kernel_rfl
theorem k19_44 : P19 [1,1,1,0,1,0,0,1,1] = .region 6 (O19 [1,1,1,0,1,0,0,1,1]) false := by kernel_rfl
theorem r19_6 {x4 : Int} {M : Mem} {call : CallM} {K : Array Value → Mem → R} :
    opsK Try.prog (fun _ => call) (O19 [1,1,1,0,1,0,0,1,1]) (O19 [1,1,1,0,1,0,0,1,1]).toList 0 #[g0,g1,g2,g3,.int .i64 x4,g5,g6,g7,g8,g9,g10,g11,g12,g13,g14,g15,g16,g17,g18,g19,g20,g21,g22,g23,g24,g25,g26,g27,g28,g29,g30,g31,g32,g33,g34,g35,g36,g37,g38,g39,g40,g41,g42,g43,g44,g45,g46,g47,g48,g49,g50,g51,g52,g53,g54,g55,g56] M K = K #[g0,g1,g2,g3,.int .i64 (IntKind.i64.wrap (x4 + 64)),g5,g6,g7,g8,g9,g10,g11,g12,g13,g14,g15,g16,g17,g18,g19,g20,g21,g22,g23,g24,g25,g26,g27,g28,g29,g30,g31,g32,g33,g34,g35,g36,.int .i64 x4,.int .i64 (IntKind.i64.wrap (x4 + 64)),g39,g40,g41,g42,g43,g44,g45,g46,g47,g48,g49,g50,g51,g52,g53,g54,g55,g56] M := by kernel_rfl
noncomputable def S19_1 : List Item := [.code (P19 [1,0,1]), .code (P19 [1,1])]
def A19_1 (x1 : Option Addr) (x16 : Bool) (M : Mem) (Q : Value → Mem → Prop) : Prop := ∀ (g0 g2 g3 g4 g5 g6 g7 g8 g9 g10 g11 g12 g13 g14 g15 g17 g18 g19 g20 g21 g22 g23 g24 g25 g26 g27 g28 g29 g30 g31 g32 g33 g34 g35 g36 g37 g38 g39 g40 g41 g42 g43 g44 g45 g46 g47 g48 g49 g50 g51 g52 g53 g54 g55 g56 : Value), Rg Try.prog Try.f19 (O19 [1,0,0]) false 11 S19_1 #[g0, .pointer x1, g2, g3, g4, g5, g6, g7, g8, g9, g10, g11, g12, g13, g14, g15, .bool x16, g17, g18, g19, g20, g21, g22, g23, g24, g25, g26, g27, g28, g29, g30, g31, g32, g33, g34, g35, g36, g37, g38, g39, g40, g41, g42, g43, g44, g45, g46, g47, g48, g49, g50, g51, g52, g53, g54, g55, g56] M Q
noncomputable def S19_2 : List Item := [.code (P19 [1,0,1]), .code (P19 [1,1])]
def A19_2 (x1 : Option Addr) (x22 : Bool) (M : Mem) (Q : Value → Mem → Prop) : Prop := ∀ (g0 g2 g3 g4 g5 g6 g7 g8 g9 g10 g11 g12 g13 g14 g15 g16 g17 g18 g19 g20 g21 g23 g24 g25 g26 g27 g28 g29 g30 g31 g32 g33 g34 g35 g36 g37 g38 g39 g40 g41 g42 g43 g44 g45 g46 g47 g48 g49 g50 g51 g52 g53 g54 g55 g56 : Value), Rg Try.prog Try.f19 (O19 [1,0,0]) false 17 S19_2 #[g0, .pointer x1, g2, g3, g4, g5, g6, g7, g8, g9, g10, g11, g12, g13, g14, g15, g16, g17, g18, g19, g20, g21, .bool x22, g23, g24, g25, g26, g27, g28, g29, g30, g31, g32, g33, g34, g35, g36, g37, g38, g39, g40, g41, g42, g43, g44, g45, g46, g47, g48, g49, g50, g51, g52, g53, g54, g55, g56] M Q
noncomputable def S19_3 : List Item := [.code (P19 [1,0,1]), .code (P19 [1,1])]
def A19_3 (x1 : Option Addr) (x27 : Bool) (M : Mem) (Q : Value → Mem → Prop) : Prop := ∀ (g0 g2 g3 g4 g5 g6 g7 g8 g9 g10 g11 g12 g13 g14 g15 g16 g17 g18 g19 g20 g21 g22 g23 g24 g25 g26 g28 g29 g30 g31 g32 g33 g34 g35 g36 g37 g38 g39 g40 g41 g42 g43 g44 g45 g46 g47 g48 g49 g50 g51 g52 g53 g54 g55 g56 : Value), Rn Try.prog Try.f19 S19_3 #[g0, .pointer x1, g2, g3, g4, g5, g6, g7, g8, g9, g10, g11, g12, g13, g14, g15, g16, g17, g18, g19, g20, g21, g22, g23, g24, g25, g26, .bool x27, g28, g29, g30, g31, g32, g33, g34, g35, g36, g37, g38, g39, g40, g41, g42, g43, g44, g45, g46, g47, g48, g49, g50, g51, g52, g53, g54, g55, g56] M Q
noncomputable def S19_4 : List Item := [.code (P19 [1,1,1,0,1,0,0]), .inLoop (P19 [1,1,1,0,1,0,0]), .inBlock 0, .code (P19 [1,1,1,1])]
def A19_4 (x1 Ax3 : Option Addr) (lx3 cx3 : Nat) (x4 : Int) (M : Mem) (Q : Value → Mem → Prop) : Prop := ∀ (g0 g2 g5 g6 g7 g8 g9 g10 g11 g12 g13 g14 g15 g16 g17 g18 g19 g20 g21 g22 g23 g24 g25 g26 g27 g28 g29 g30 g31 g32 g33 g34 g35 g36 g37 g38 g39 g40 g41 g42 g43 g44 g45 g46 g47 g48 g49 g50 g51 g52 g53 g54 g55 g56 : Value), Rn Try.prog Try.f19 S19_4 #[g0, .pointer x1, g2, .slice Ax3 lx3 cx3, .int .i64 x4, g5, g6, g7, g8, g9, g10, g11, g12, g13, g14, g15, g16, g17, g18, g19, g20, g21, g22, g23, g24, g25, g26, g27, g28, g29, g30, g31, g32, g33, g34, g35, g36, g37, g38, g39, g40, g41, g42, g43, g44, g45, g46, g47, g48, g49, g50, g51, g52, g53, g54, g55, g56] M Q
noncomputable def S19_5 : List Item := [.code (P19 [1,1,1,0,1,0,0,1,0,0,1,0,0]), .inLoop (P19 [1,1,1,0,1,0,0,1,0,0,1,0,0]), .inBlock 2, .inBlock 1, .code (P19 [1,1,1,0,1,0,0,1,1]), .inLoop (P19 [1,1,1,0,1,0,0]), .inBlock 0, .code (P19 [1,1,1,1])]
def A19_5 (x1 Ax3 : Option Addr) (lx3 cx3 : Nat) (x4 x5 : Int) (M : Mem) (Q : Value → Mem → Prop) : Prop := ∀ (g0 g2 g6 g7 g8 g9 g10 g11 g12 g13 g14 g15 g16 g17 g18 g19 g20 g21 g22 g23 g24 g25 g26 g27 g28 g29 g30 g31 g32 g33 g34 g35 g36 g37 g38 g39 g40 g41 g42 g43 g44 g45 g46 g47 g48 g49 g50 g51 g52 g53 g54 g55 g56 : Value), Rn Try.prog Try.f19 S19_5 #[g0, .pointer x1, g2, .slice Ax3 lx3 cx3, .int .i64 x4, .int .i64 x5, g6, g7, g8, g9, g10, g11, g12, g13, g14, g15, g16, g17, g18, g19, g20, g21, g22, g23, g24, g25, g26, g27, g28, g29, g30, g31, g32, g33, g34, g35, g36, g37, g38, g39, g40, g41, g42, g43, g44, g45, g46, g47, g48, g49, g50, g51, g52, g53, g54, g55, g56] M Q
theorem w19_0 {x0_0 x0_1 x0_2 x0_3 : Int} {M : Mem} {Q : Value → Mem → Prop} (H :
    ∃ x1', (M.new (.cells #[.int .i64 x0_0, .int .i64 x0_1, .int .i64 x0_2, .int .i64 x0_3] 35)).intAt .i64 (2 * M.nb.size) (0 + 2) = some x1' ∧
    Cn Try.prog 35 #[.int .i64 x1', .int .i64 1, .int .i64 256] (M.new (.cells #[.int .i64 x0_0, .int .i64 x0_1, .int .i64 x0_2, .int .i64 x0_3] 35)) fun v2' N2' =>
     ∃ b3', asB v2' = some b3' ∧
     (((!b3') = true →
      A19_1 (some ⟨2 * M.nb.size, 0, none⟩) true N2' Q) ∧
      ((!b3') = false →
      ∃ x4', N2'.intAt .i64 (2 * M.nb.size) (0 + 3) = some x4' ∧
      Cn Try.prog 35 #[.int .i64 x4', .int .i64 1, .int .i64 256] N2' fun v5' N5' =>
       ∃ b6', asB v5' = some b6' ∧
       A19_1 (some ⟨2 * M.nb.size, 0, none⟩) (!b6') N5' Q))) :
    Cn Try.prog 19 #[.agg #[.int .i64 x0_0, .int .i64 x0_1, .int .i64 x0_2, .int .i64 x0_3]] M Q := by
  refine Cn.of b19 d19 t19 ?_
  refine Rn.seq k19_0 (Rn.region k19_1 (fun call K => r19_0) (Rch.leaf (Rn.seq k19_2 (Rn.seq k19_3 (Rn.regionC k19_5 (Rg.step (d := 11) (j := 11) (fun call K => r19_1p0) rfl rfl (Rch.bind (x := ⟨2 * M.nb.size, 0, none⟩) rfl (Rch.ex H fun x1' H => Rch.call H fun v2' N2' H => Rch.ex H fun b3' H => ?_))))))))
  refine Rch.cB (fun h => ?_) (fun h => ?_)
  · replace H := H.1 (h)
    refine Rch.rest ?_
    exact H _ _ _ _ _ _ _ _ _ _ _ _ _ _ _ _ _ _ _ _ _ _ _ _ _ _ _ _ _ _ _ _ _ _ _ _ _ _ _ _ _ _ _ _ _ _ _ _ _ _ _ _ _ _ _
  · replace H := H.2 (h)
    refine Rch.bind (x := ⟨2 * M.nb.size, 0, none⟩) rfl (Rch.ex H fun x4' H => Rch.call H fun v5' N5' H => Rch.ex H fun b6' H => Rch.rest ?_)
    exact H _ _ _ _ _ _ _ _ _ _ _ _ _ _ _ _ _ _ _ _ _ _ _ _ _ _ _ _ _ _ _ _ _ _ _ _ _ _ _ _ _ _ _ _ _ _ _ _ _ _ _ _ _ _ _

theorem w19_1 {x1 : Option Addr} {x16 : Bool} {M : Mem} {Q : Value → Mem → Prop} (H :
    ((x16 = true →
     A19_2 x1 true M Q) ∧
     (x16 = false →
     ∃ a7', x1 = some a7' ∧
     ∃ x8', M.intAt .i64 a7'.block a7'.off = some x8' ∧
     Cn Try.prog 35 #[.int .i64 x8', .int .i64 0, .int .i64 256] M fun v9' N9' =>
      ∃ b10', asB v9' = some b10' ∧
      A19_2 x1 (!b10') N9' Q))) :
    A19_1 x1 x16 M Q := by
  intro g0 g2 g3 g4 g5 g6 g7 g8 g9 g10 g11 g12 g13 g14 g15 g17 g18 g19 g20 g21 g22 g23 g24 g25 g26 g27 g28 g29 g30 g31 g32 g33 g34 g35 g36 g37 g38 g39 g40 g41 g42 g43 g44 g45 g46 g47 g48 g49 g50 g51 g52 g53 g54 g55 g56
  refine Rg.step (d := 6) (j := 17) (fun call K => r19_1p11) rfl rfl ?_
  refine Rch.cB (fun h => ?_) (fun h => ?_)
  · replace H := H.1 (h)
    refine Rch.rest ?_
    exact H _ _ _ _ _ _ _ _ _ _ _ _ _ _ _ _ _ _ _ _ _ _ _ _ _ _ _ _ _ _ _ _ _ _ _ _ _ _ _ _ _ _ _ _ _ _ _ _ _ _ _ _ _ _ _
  · replace H := H.2 (h)
    refine Rch.ex H fun a7' H => Rch.ex H fun x8' H => Rch.call H fun v9' N9' H => Rch.ex H fun b10' H => Rch.rest ?_
    exact H _ _ _ _ _ _ _ _ _ _ _ _ _ _ _ _ _ _ _ _ _ _ _ _ _ _ _ _ _ _ _ _ _ _ _ _ _ _ _ _ _ _ _ _ _ _ _ _ _ _ _ _ _ _ _

theorem w19_2 {x1 : Option Addr} {x22 : Bool} {M : Mem} {Q : Value → Mem → Prop} (H :
    ((x22 = true →
     A19_3 x1 true M Q) ∧
     (x22 = false →
     ∃ a11', x1 = some a11' ∧
     ∃ x12', M.intAt .i64 a11'.block (a11'.off + 1) = some x12' ∧
     Cn Try.prog 35 #[.int .i64 x12', .int .i64 0, .int .i64 256] M fun v13' N13' =>
      ∃ b14', asB v13' = some b14' ∧
      A19_3 x1 (!b14') N13' Q))) :
    A19_2 x1 x22 M Q := by
  intro g0 g2 g3 g4 g5 g6 g7 g8 g9 g10 g11 g12 g13 g14 g15 g16 g17 g18 g19 g20 g21 g23 g24 g25 g26 g27 g28 g29 g30 g31 g32 g33 g34 g35 g36 g37 g38 g39 g40 g41 g42 g43 g44 g45 g46 g47 g48 g49 g50 g51 g52 g53 g54 g55 g56
  refine Rg.step (d := 5) (j := 22) (fun call K => r19_1p17) rfl rfl ?_
  refine Rch.cB (fun h => ?_) (fun h => ?_)
  · replace H := H.1 (h)
    refine Rch.rest (Rg.done rfl ?_)
    exact H _ _ _ _ _ _ _ _ _ _ _ _ _ _ _ _ _ _ _ _ _ _ _ _ _ _ _ _ _ _ _ _ _ _ _ _ _ _ _ _ _ _ _ _ _ _ _ _ _ _ _ _ _ _ _
  · replace H := H.2 (h)
    refine Rch.ex H fun a11' H => Rch.ex H fun x12' H => Rch.call H fun v13' N13' H => Rch.ex H fun b14' H => Rch.rest (Rg.done rfl ?_)
    exact H _ _ _ _ _ _ _ _ _ _ _ _ _ _ _ _ _ _ _ _ _ _ _ _ _ _ _ _ _ _ _ _ _ _ _ _ _ _ _ _ _ _ _ _ _ _ _ _ _ _ _ _ _ _ _

theorem w19_3 {x1 : Option Addr} {x27 : Bool} {M : Mem} {Q : Value → Mem → Prop} (H :
    ((x27 = true →
     Q (.slice none 0 0) M) ∧
     (x27 = false →
     ∃ a15', x1 = some a15' ∧
     ∃ x16', M.intAt .i64 a15'.block (a15'.off + 1) = some x16' ∧
     A19_4 x1 none 0 0 x16' M Q))) :
    A19_3 x1 x27 M Q := by
  intro g0 g2 g3 g4 g5 g6 g7 g8 g9 g10 g11 g12 g13 g14 g15 g16 g17 g18 g19 g20 g21 g22 g23 g24 g25 g26 g28 g29 g30 g31 g32 g33 g34 g35 g36 g37 g38 g39 g40 g41 g42 g43 g44 g45 g46 g47 g48 g49 g50 g51 g52 g53 g54 g55 g56
  refine Rn.cnd (v := x27) ⟨c19_6, rfl, by kernel_rfl⟩ (fun h => ?_) (fun h => ?_)
  · replace H := H.1 (h)
    refine Rn.seq k19_7 (Rn.region k19_8 (fun call K => r19_2) (Rch.leaf ?_))
    exact Rn.ret k19_9 e19 H
  · replace H := H.2 (h)
    refine Rn.skip k19_11 (Rn.seq k19_12 (Rn.region k19_13 (fun call K => r19_3) (Rch.leaf (Rn.seq k19_14 (Rn.seq k19_15 (Rn.region k19_16 (fun call K => r19_4) (Rch.ex H fun a15' H => Rch.ex H fun x16' H => Rch.leaf (Rn.block k19_17 (Rn.loop k19_18 ?_)))))))))
    exact H _ _ _ _ _ _ _ _ _ _ _ _ _ _ _ _ _ _ _ _ _ _ _ _ _ _ _ _ _ _ _ _ _ _ _ _ _ _ _ _ _ _ _ _ _ _ _ _ _ _ _ _ _ _

theorem w19_4 {x1 Ax3 : Option Addr} {lx3 cx3 : Nat} {x4 : Int} {M : Mem} {Q : Value → Mem → Prop} (H :
    ∃ a17', x1 = some a17' ∧
    ∃ x18', M.intAt .i64 a17'.block (a17'.off + 1) = some x18' ∧
    ∃ a19', x1 = some a19' ∧
    ∃ x20', M.intAt .i64 a19'.block (a19'.off + 3) = some x20' ∧
    ((x4 < (IntKind.i64.wrap (x18' + x20')) →
     ∃ a21', x1 = some a21' ∧
     ∃ x22', M.intAt .i64 a21'.block a21'.off = some x22' ∧
     A19_5 x1 Ax3 lx3 cx3 x4 x22' M Q) ∧
     (¬ (x4 < (IntKind.i64.wrap (x18' + x20'))) →
     Q (.slice Ax3 lx3 cx3) M))) :
    A19_4 x1 Ax3 lx3 cx3 x4 M Q := by
  intro g0 g2 g5 g6 g7 g8 g9 g10 g11 g12 g13 g14 g15 g16 g17 g18 g19 g20 g21 g22 g23 g24 g25 g26 g27 g28 g29 g30 g31 g32 g33 g34 g35 g36 g37 g38 g39 g40 g41 g42 g43 g44 g45 g46 g47 g48 g49 g50 g51 g52 g53 g54 g55 g56
  refine Rn.seq k19_19 (Rn.seq k19_20 (Rn.region k19_21 (fun call K => r19_5) (Rch.ex H fun a17' H => Rch.ex H fun x18' H => Rch.ex H fun a19' H => Rch.ex H fun x20' H => Rch.leaf ?_)))
  refine Rn.cnd (v := decide (x4 < (IntKind.i64.wrap (x18' + x20')))) ⟨c19_22, rfl, by kernel_rfl⟩ (fun h => ?_) (fun h => ?_)
  · replace H := H.1 (of_decide_eq_true h)
    refine Rn.skip k19_23 (Rn.seq k19_24 (Rn.block k19_25 (Rn.seq k19_26 (Rn.region k19_27 (fun call K => r19_7) (Rch.ex H fun a21' H => Rch.ex H fun x22' H => Rch.leaf (Rn.block k19_28 (Rn.loop k19_29 ?_)))))))
    exact H _ _ _ _ _ _ _ _ _ _ _ _ _ _ _ _ _ _ _ _ _ _ _ _ _ _ _ _ _ _ _ _ _ _ _ _ _ _ _ _ _ _ _ _ _ _ _ _ _ _ _ _ _
  · replace H := H.2 (of_decide_eq_false h)
    refine Rn.exit k19_30 rfl (Rn.seq k19_31 (Rn.region k19_32 (fun call K => r19_11) (Rch.leaf ?_)))
    exact Rn.ret k19_33 e19 H

theorem w19_5 {x1 Ax3 : Option Addr} {lx3 cx3 : Nat} {x4 x5 : Int} {M : Mem} {Q : Value → Mem → Prop} (H :
    ∃ a23', x1 = some a23' ∧
    ∃ x24', M.intAt .i64 a23'.block a23'.off = some x24' ∧
    ∃ a25', x1 = some a25' ∧
    ∃ x26', M.intAt .i64 a25'.block (a25'.off + 2) = some x26' ∧
    ((x5 < (IntKind.i64.wrap (x24' + x26')) →
     ∃ r27', appendP Try.prog #[36, 36] (.slice Ax3 lx3 cx3) (.slice (some ⟨2 * M.nb.size, 0, none⟩) 1 1) (M.new (.cells #[.int .i64 x5, .int .i64 x4, .int .i64 64, .int .i64 64] 35)) = some r27' ∧
     ∃ s28', asS r27'.1 = some s28' ∧
     A19_5 x1 s28'.1 s28'.2.1 s28'.2.2 x4 (IntKind.i64.wrap (x5 + 64)) r27'.2 Q) ∧
     (¬ (x5 < (IntKind.i64.wrap (x24' + x26'))) →
     A19_4 x1 Ax3 lx3 cx3 (IntKind.i64.wrap (x4 + 64)) M Q))) :
    A19_5 x1 Ax3 lx3 cx3 x4 x5 M Q := by
  intro g0 g2 g6 g7 g8 g9 g10 g11 g12 g13 g14 g15 g16 g17 g18 g19 g20 g21 g22 g23 g24 g25 g26 g27 g28 g29 g30 g31 g32 g33 g34 g35 g36 g37 g38 g39 g40 g41 g42 g43 g44 g45 g46 g47 g48 g49 g50 g51 g52 g53 g54 g55 g56
  refine Rn.seq k19_34 (Rn.seq k19_35 (Rn.region k19_36 (fun call K => r19_8) (Rch.ex H fun a23' H => Rch.ex H fun x24' H => Rch.ex H fun a25' H => Rch.ex H fun x26' H => Rch.leaf ?_)))
  refine Rn.cnd (v := decide (x5 < (IntKind.i64.wrap (x24' + x26')))) ⟨c19_37, rfl, by kernel_rfl⟩ (fun h => ?_) (fun h => ?_)
  · replace H := H.1 (of_decide_eq_true h)
    refine Rn.skip k19_38 (Rn.seq k19_39 (Rn.block k19_40 (Rn.region k19_41 (fun call K => r19_10) (Rch.ex H fun r27' H => Rch.ex H fun s28' H => Rch.leaf (Rn.blk (Rn.region k19_42 (fun call K => r19_9) (Rch.leaf (Rn.lp ?_))))))))
    exact H _ _ _ _ _ _ _ _ _ _ _ _ _ _ _ _ _ _ _ _ _ _ _ _ _ _ _ _ _ _ _ _ _ _ _ _ _ _ _ _ _ _ _ _ _ _ _ _ _ _ _ _ _
  · replace H := H.2 (of_decide_eq_false h)
    refine Rn.exit k19_43 rfl (Rn.blk (Rn.region k19_44 (fun call K => r19_6) (Rch.leaf (Rn.lp ?_))))
    exact H _ _ _ _ _ _ _ _ _ _ _ _ _ _ _ _ _ _ _ _ _ _ _ _ _ _ _ _ _ _ _ _ _ _ _ _ _ _ _ _ _ _ _ _ _ _ _ _ _ _ _ _ _ _


/-! ### zoetrope/zoetroperef00.Bring: function 15 -/
noncomputable abbrev P15 (p : List Nat) : Code := subC (codeOf Try.f15) p
noncomputable abbrev O15 (p : List Nat) : Array Oper := opsOf (subC (codeOf Try.f15) p)
theorem b15 : Try.prog.funcs[15]? = some Try.f15 ∧ (Orc.tab Try.prog).lookup 15 = none := ⟨by kernel_rfl, by kernel_rfl⟩
theorem d15 : Try.f15.body = some (P15 []) := by kernel_rfl
theorem t15 {x0 x1 : Int} : #[.int .i64 x0,.int .i64 x1] ++ Array.replicate (Try.f15.ntmps - (#[.int .i64 x0,.int .i64 x1] : Array Value).size) undef = #[.int .i64 x0,.int .i64 x1,undef,undef,undef,undef,undef,undef,undef,undef,undef,undef,undef,undef,undef,undef] := by kernel_rfl
theorem k15_0 : P15 [] = .seq (P15 [0]) (P15 [1]) := by kernel_rfl
theorem k15_1 : P15 [0] = .region 0 (O15 [0]) false := by kernel_rfl
theorem r15_0 {M : Mem} {call : CallM} {K : Array Value → Mem → R} :
    opsK Try.prog (fun _ => call) (O15 [0]) (O15 [0]).toList 0 #[g0,g1,g2,g3,g4,g5,g6,g7,g8,g9,g10,g11,g12,g13,g14,g15] M K = K #[g0,g1,g2,g3,.int .i64 0,g5,g6,g7,g8,g9,g10,g11,g12,g13,g14,g15] M := by kernel_rfl
theorem k15_2 : P15 [1] = .seq (P15 [1,0]) (P15 [1,1]) := by kernel_rfl
theorem k15_3 : P15 [1,0] = .seq (P15 [1,0,0]) (P15 [1,0,1]) := by kernel_rfl
theorem k15_4 : P15 [1,0,0] = .region 1 (O15 [1,0,0]) false := by kernel_rfl
theorem r15_1 {x1 : Int} {M : Mem} {call : CallM} {K : Array Value → Mem → R} :
    opsK Try.prog (fun _ => call) (O15 [1,0,0]) (O15 [1,0,0]).toList 0 #[g0,.int .i64 x1,g2,g3,g4,g5,g6,g7,g8,g9,g10,g11,g12,g13,g14,g15] M K = K #[g0,.int .i64 x1,g2,g3,g4,.int .i64 x1,.bool (decide (x1 ≤ 0)),g7,g8,g9,g10,g11,g12,g13,g14,g15] M := by kernel_rfl
theorem c15_5 : P15 [1,0,1] = .cond (.tmp 6) (P15 [1,0,1,0]) (P15 [1,0,1,1]) := by kernel_rfl
theorem k15_6 : P15 [1,0,1,0] = .seq (P15 [1,0,1,0,0]) (P15 [1,0,1,0,1]) := by kernel_rfl
theorem k15_7 : P15 [1,0,1,0,0] = .region 2 (O15 [1,0,1,0,0]) false := by kernel_rfl
theorem r15_2 {M : Mem} {call : CallM} {K : Array Value → Mem → R} :
    opsK Try.prog (fun _ => call) (O15 [1,0,1,0,0]) (O15 [1,0,1,0,0]).toList 0 #[g0,g1,g2,g3,g4,g5,g6,g7,g8,g9,g10,g11,g12,g13,g14,g15] M K = K #[g0,g1,g2,g3,.int .i64 0,g5,g6,g7,g8,g9,g10,g11,g12,g13,g14,g15] M := by kernel_rfl
theorem k15_8 : P15 [1,0,1,0,1] = .ret := by kernel_rfl
theorem e15 {M : Mem} : finish Try.prog Try.f15 #[g0,g1,g2,g3,g4,g5,g6,g7,g8,g9,g10,g11,g12,g13,g14,g15] M = some (g4, M) := by kernel_rfl
theorem k15_10 : P15 [1,0,1,1] = .skip := by kernel_rfl
theorem k15_11 : P15 [1,1] = .seq (P15 [1,1,0]) (P15 [1,1,1]) := by kernel_rfl
theorem k15_12 : P15 [1,1,0] = .region 3 (O15 [1,1,0]) false := by kernel_rfl
theorem r15_3 {x0 x1 : Int} {M : Mem} {call : CallM} {K : Array Value → Mem → R} :
    opsK Try.prog (fun _ => call) (O15 [1,1,0]) (O15 [1,1,0]).toList 0 #[.int .i64 x0,.int .i64 x1,g2,g3,g4,g5,g6,g7,g8,g9,g10,g11,g12,g13,g14,g15] M K = (binV Try.prog .rem 3 3 (.int .i64 x0) (.int .i64 x1)).bind fun v_1 => (asI .i64 v_1).bind fun x_2 => K #[.int .i64 x_2,.int .i64 x1,g2,g3,g4,g5,g6,.int .i64 x0,.int .i64 x1,.int .i64 x_2,g10,g11,g12,g13,g14,g15] M := by kernel_rfl
theorem k15_13 : P15 [1,1,1] = .seq (P15 [1,1,1,0]) (P15 [1,1,1,1]) := by kernel_rfl
theorem k15_14 : P15 [1,1,1,0] = .seq (P15 [1,1,1,0,0]) (P15 [1,1,1,0,1]) := by kernel_rfl
theorem k15_15 : P15 [1,1,1,0,0] = .region 4 (O15 [1,1,1,0,0]) false := by kernel_rfl
theorem r15_4 {x0 : Int} {M : Mem} {call : CallM} {K : Array Value → Mem → R} :
    opsK Try.prog (fun _ => call) (O15 [1,1,1,0,0]) (O15 [1,1,1,0,0]).toList 0 #[.int .i64 x0,g1,g2,g3,g4,g5,g6,g7,g8,g9,g10,g11,g12,g13,g14,g15] M K = K #[.int .i64 x0,g1,g2,g3,g4,g5,g6,g7,g8,g9,.int .i64 x0,.bool (decide (x0 < 0)),g12,g13,g14,g15] M := by kernel_rfl
theorem c15_16 : P15 [1,1,1,0,1] = .cond (.tmp 11) (P15 [1,1,1,0,1,0]) (P15 [1,1,1,0,1,1]) := by kernel_rfl
theorem k15_17 : P15 [1,1,1,0,1,0] = .region 5 (O15 [1,1,1,0,1,0]) false := by kernel_rfl
theorem r15_5 {x0 x1 : Int} {M : Mem} {call : CallM} {K : Array Value → Mem → R} :
    opsK Try.prog (fun _ => call) (O15 [1,1,1,0,1,0]) (O15 [1,1,1,0,1,0]).toList 0 #[.int .i64 x0,.int .i64 x1,g2,g3,g4,g5,g6,g7,g8,g9,g10,g11,g12,g13,g14,g15] M K = K #[.int .i64 (IntKind.i64.wrap (x0 + x1)),.int .i64 x1,g2,g3,g4,g5,g6,g7,g8,g9,g10,g11,.int .i64 x0,.int .i64 x1,.int .i64 (IntKind.i64.wrap (x0 + x1)),g15] M := by kernel_rfl
theorem k15_18 : P15 [1,1,1,1] = .seq (P15 [1,1,1,1,0]) (P15 [1,1,1,1,1]) := by kernel_rfl
theorem k15_19 : P15 [1,1,1,1,0] = .region 6 (O15 [1,1,1,1,0]) false := by kernel_rfl
theorem r15_6 {x0 : Int} {M : Mem} {call : CallM} {K : Array Value → Mem → R} :
    opsK Try.prog (fun _ => call) (O15 [1,1,1,1,0]) (O15 [1,1,1,1,0]).toList 0 #[.int .i64 x0,g1,g2,g3,g4,g5,g6,g7,g8,g9,g10,g11,g12,g13,g14,g15] M K = K #[.int .i64 x0,g1,g2,g3,.int .i64 x0,g5,g6,g7,g8,g9,g10,g11,g12,g13,g14,.int .i64 x0] M := by kernel_rfl
theorem k15_20 : P15 [1,1,1,1,1] = .ret := by kernel_rfl
theorem k15_21 : P15 [1,1,1,0,1,1] = .skip := by kernel_rfl
theorem w15_0 {x0 x1 : Int} {M : Mem} {Q : Value → Mem → Prop} (H :
    ((x1 ≤ 0 →
     Q (.int .i64 0) M) ∧
     (¬ (x1 ≤ 0) →
     ∃ v1', binV Try.prog .rem 3 3 (.int .i64 x0) (.int .i64 x1) = some v1' ∧
     ∃ x2', asI .i64 v1' = some x2' ∧
     ((x2' < 0 →
      Q (.int .i64 (IntKind.i64.wrap (x2' + x1))) M) ∧
      (¬ (x2' < 0) →
      Q (.int .i64 (x2')) M))))) :
    Cn Try.prog 15 #[.int .i64 x0, .int .i64 x1] M Q := by
  refine Cn.of b15 d15 t15 ?_
  refine Rn.seq k15_0 (Rn.region k15_1 (fun call K => r15_0) (Rch.leaf (Rn.seq k15_2 (Rn.seq k15_3 (Rn.region k15_4 (fun call K => r15_1) (Rch.leaf ?_))))))
  refine Rn.cnd (v := decide (x1 ≤ 0)) ⟨c15_5, rfl, by kernel_rfl⟩ (fun h => ?_) (fun h => ?_)
  · replace H := H.1 (of_decide_eq_true h)
    refine Rn.seq k15_6 (Rn.region k15_7 (fun call K => r15_2) (Rch.leaf ?_))
    exact Rn.ret k15_8 e15 H
  · replace H := H.2 (of_decide_eq_false h)
    refine Rn.skip k15_10 (Rn.seq k15_11 (Rn.region k15_12 (fun call K => r15_3) (Rch.ex H fun v1' H => Rch.ex H fun x2' H => Rch.leaf (Rn.seq k15_13 (Rn.seq k15_14 (Rn.region k15_15 (fun call K => r15_4) (Rch.leaf ?_)))))))
    refine Rn.cnd (v := decide (x2' < 0)) ⟨c15_16, rfl, by kernel_rfl⟩ (fun h => ?_) (fun h => ?_)
    · replace H := H.1 (of_decide_eq_true h)
      refine Rn.region k15_17 (fun call K => r15_5) (Rch.leaf (Rn.seq k15_18 (Rn.region k15_19 (fun call K => r15_6) (Rch.leaf ?_))))
      exact Rn.ret k15_20 e15 H
    · replace H := H.2 (of_decide_eq_false h)
      refine Rn.skip k15_21 (Rn.seq k15_18 (Rn.region k15_19 (fun call K => r15_6) (Rch.leaf ?_)))
      exact Rn.ret k15_20 e15 H


end Go.Zt

