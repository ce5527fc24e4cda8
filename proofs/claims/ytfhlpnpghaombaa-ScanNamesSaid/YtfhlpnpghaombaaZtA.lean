/- The functions' walks: for each function and each loop a rule of what it comes to. Printed by zw.py. -/
import Derived.Test.YtfhlpnpghaombaaProg
import Derived.Test.YtfhlpnpghaombaaZsN
set_option linter.unusedVariables false
set_option maxRecDepth 100000
namespace Go.Zt
open Go Go.Sim Go.Proofs

def str0 : ByteArray := ⟨#[0, 1, 2, 2, 3, 3, 3, 3, 4, 4, 4, 4, 4, 4, 4, 4, 5, 5, 5, 5, 5, 5, 5, 5, 5, 5, 5, 5, 5, 5, 5, 5, 6, 6, 6, 6, 6, 6, 6, 6, 6, 6, 6, 6, 6, 6, 6, 6, 6, 6, 6, 6, 6, 6, 6, 6, 6, 6, 6, 6, 6, 6, 6, 6, 7, 7, 7, 7, 7, 7, 7, 7, 7, 7, 7, 7, 7, 7, 7, 7, 7, 7, 7, 7, 7, 7, 7, 7, 7, 7, 7, 7, 7, 7, 7, 7, 7, 7, 7, 7, 7, 7, 7, 7, 7, 7, 7, 7, 7, 7, 7, 7, 7, 7, 7, 7, 7, 7, 7, 7, 7, 7, 7, 7, 7, 7, 7, 7, 8, 8, 8, 8, 8, 8, 8, 8, 8, 8, 8, 8, 8, 8, 8, 8, 8, 8, 8, 8, 8, 8, 8, 8, 8, 8, 8, 8, 8, 8, 8, 8, 8, 8, 8, 8, 8, 8, 8, 8, 8, 8, 8, 8, 8, 8, 8, 8, 8, 8, 8, 8, 8, 8, 8, 8, 8, 8, 8, 8, 8, 8, 8, 8, 8, 8, 8, 8, 8, 8, 8, 8, 8, 8, 8, 8, 8, 8, 8, 8, 8, 8, 8, 8, 8, 8, 8, 8, 8, 8, 8, 8, 8, 8, 8, 8, 8, 8, 8, 8, 8, 8, 8, 8, 8, 8, 8, 8, 8, 8, 8, 8, 8, 8, 8, 8, 8, 8, 8, 8, 8, 8, 8, 8, 8, 8, 8, 8]⟩
/-! ### zoetrope/scan.side: function 21 -/
theorem b21 : Try.prog.funcs[21]? = some Try.f21 := by kernel_rfl
theorem d21 : Try.f21.body = some (subC (codeOf Try.f21) []) := by kernel_rfl
theorem t21 {x0 : Int} : #[.int .i64 x0] ++ Array.replicate (Try.f21.ntmps - (#[.int .i64 x0] : Array Value).size) undef = #[.int .i64 x0, undef, undef, undef, undef, undef, undef, undef, undef, undef, undef, undef, undef, undef] := by kernel_rfl
theorem k21_0 : subC (codeOf Try.f21) [] = .seq (subC (codeOf Try.f21) [0]) (subC (codeOf Try.f21) [1]) := by kernel_rfl
theorem k21_1 : subC (codeOf Try.f21) [0] = .region 0 (opsOf (subC (codeOf Try.f21) [0])) false := by kernel_rfl
theorem r21_0 {g0 g1 g2 g3 g4 g5 g6 g7 g8 g9 g10 g11 g12 g13 : Value} {M : Mem} {call : CallM} {K : Array Value → Mem → R} :
    opsK Try.prog (fun _ => call) (opsOf (subC (codeOf Try.f21) [0])) (opsOf (subC (codeOf Try.f21) [0])).toList 0 #[g0, g1, g2, g3, g4, g5, g6, g7, g8, g9, g10, g11, g12, g13] M K = K #[g0, g1, .int .i64 0, g3, g4, g5, g6, g7, g8, g9, g10, g11, g12, g13] M := by kernel_rfl
theorem k21_2 : subC (codeOf Try.f21) [1] = .seq (subC (codeOf Try.f21) [1, 0]) (subC (codeOf Try.f21) [1, 1]) := by kernel_rfl
theorem k21_3 : subC (codeOf Try.f21) [1, 0] = .seq (subC (codeOf Try.f21) [1, 0, 0]) (subC (codeOf Try.f21) [1, 0, 1]) := by kernel_rfl
theorem k21_4 : subC (codeOf Try.f21) [1, 0, 0] = .region 1 (opsOf (subC (codeOf Try.f21) [1, 0, 0])) false := by kernel_rfl
theorem r21_1 {x0 : Int} {g1 g2 g3 g4 g5 g6 g7 g8 g9 g10 g11 g12 g13 : Value} {M : Mem} {call : CallM} {K : Array Value → Mem → R} :
    opsK Try.prog (fun _ => call) (opsOf (subC (codeOf Try.f21) [1, 0, 0])) (opsOf (subC (codeOf Try.f21) [1, 0, 0])).toList 0 #[.int .i64 x0, g1, g2, g3, g4, g5, g6, g7, g8, g9, g10, g11, g12, g13] M K = K #[.int .i64 x0, g1, g2, .int .i64 x0, g4, g5, g6, g7, g8, g9, g10, g11, g12, g13] M := by kernel_rfl
theorem k21_5 : subC (codeOf Try.f21) [1, 0, 1] = .block 0 (subC (codeOf Try.f21) [1, 0, 1, 0]) := by kernel_rfl
theorem k21_6 : subC (codeOf Try.f21) [1, 0, 1, 0] = .seq (subC (codeOf Try.f21) [1, 0, 1, 0, 0]) (subC (codeOf Try.f21) [1, 0, 1, 0, 1]) := by kernel_rfl
theorem k21_7 : subC (codeOf Try.f21) [1, 0, 1, 0, 0] = .seq (subC (codeOf Try.f21) [1, 0, 1, 0, 0, 0]) (subC (codeOf Try.f21) [1, 0, 1, 0, 0, 1]) := by kernel_rfl
theorem k21_8 : subC (codeOf Try.f21) [1, 0, 1, 0, 0, 0] = .region 2 (opsOf (subC (codeOf Try.f21) [1, 0, 1, 0, 0, 0])) false := by kernel_rfl
theorem r21_2 {x3 : Int} {g0 g1 g2 g4 g5 g6 g7 g8 g9 g10 g11 g12 g13 : Value} {M : Mem} {call : CallM} {K : Array Value → Mem → R} :
    opsK Try.prog (fun _ => call) (opsOf (subC (codeOf Try.f21) [1, 0, 1, 0, 0, 0])) (opsOf (subC (codeOf Try.f21) [1, 0, 1, 0, 0, 0])).toList 0 #[g0, g1, g2, .int .i64 x3, g4, g5, g6, g7, g8, g9, g10, g11, g12, g13] M K = K #[g0, g1, g2, .int .i64 x3, .bool (x3 == 4), .bool (x3 == 4), g6, g7, g8, g9, g10, g11, g12, g13] M := by kernel_rfl
theorem c21_9 {x4 : Bool} {g0 g1 g2 g3 g5 g6 g7 g8 g9 g10 g11 g12 g13 : Value} : subC (codeOf Try.f21) [1, 0, 1, 0, 0, 1] = .cond (.tmp 4) (subC (codeOf Try.f21) [1, 0, 1, 0, 0, 1, 0]) (subC (codeOf Try.f21) [1, 0, 1, 0, 0, 1, 1]) ∧ okOperand (.tmp 4) = true ∧ evalT #[g0, g1, g2, g3, .bool x4, g5, g6, g7, g8, g9, g10, g11, g12, g13] (.tmp 4) = .bool x4 := ⟨by kernel_rfl, by kernel_rfl, by kernel_rfl⟩
theorem k21_10 : subC (codeOf Try.f21) [1, 0, 1, 0, 0, 1, 0] = .skip := by kernel_rfl
theorem c21_11 {x4 : Bool} {g0 g1 g2 g3 g5 g6 g7 g8 g9 g10 g11 g12 g13 : Value} : subC (codeOf Try.f21) [1, 0, 1, 0, 1] = .cond (.tmp 4) (subC (codeOf Try.f21) [1, 0, 1, 0, 1, 0]) (subC (codeOf Try.f21) [1, 0, 1, 0, 1, 1]) ∧ okOperand (.tmp 4) = true ∧ evalT #[g0, g1, g2, g3, .bool x4, g5, g6, g7, g8, g9, g10, g11, g12, g13] (.tmp 4) = .bool x4 := ⟨by kernel_rfl, by kernel_rfl, by kernel_rfl⟩
theorem k21_12 : subC (codeOf Try.f21) [1, 0, 1, 0, 1, 0] = .seq (subC (codeOf Try.f21) [1, 0, 1, 0, 1, 0, 0]) (subC (codeOf Try.f21) [1, 0, 1, 0, 1, 0, 1]) := by kernel_rfl
theorem k21_13 : subC (codeOf Try.f21) [1, 0, 1, 0, 1, 0, 0] = .region 6 (opsOf (subC (codeOf Try.f21) [1, 0, 1, 0, 1, 0, 0])) false := by kernel_rfl
theorem r21_6 {x0 : Int} {g1 g2 g3 g4 g5 g6 g7 g8 g9 g10 g11 g12 g13 : Value} {M : Mem} {call : CallM} {K : Array Value → Mem → R} :
    opsK Try.prog (fun _ => call) (opsOf (subC (codeOf Try.f21) [1, 0, 1, 0, 1, 0, 0])) (opsOf (subC (codeOf Try.f21) [1, 0, 1, 0, 1, 0, 0])).toList 0 #[.int .i64 x0, g1, g2, g3, g4, g5, g6, g7, g8, g9, g10, g11, g12, g13] M K = K #[.int .i64 x0, g1, .int .i64 x0, g3, g4, g5, g6, g7, g8, .int .i64 x0, g10, g11, g12, g13] M := by kernel_rfl
theorem k21_14 : subC (codeOf Try.f21) [1, 0, 1, 0, 1, 0, 1] = .ret := by kernel_rfl
theorem e21 {g0 g1 g2 g3 g4 g5 g6 g7 g8 g9 g10 g11 g12 g13 : Value} {M : Mem} : finish Try.prog Try.f21 #[g0, g1, g2, g3, g4, g5, g6, g7, g8, g9, g10, g11, g12, g13] M = some (g2, M) := by kernel_rfl
theorem k21_16 : subC (codeOf Try.f21) [1, 0, 1, 0, 1, 1] = .seq (subC (codeOf Try.f21) [1, 0, 1, 0, 1, 1, 0]) (subC (codeOf Try.f21) [1, 0, 1, 0, 1, 1, 1]) := by kernel_rfl
theorem k21_17 : subC (codeOf Try.f21) [1, 0, 1, 0, 1, 1, 0] = .region 7 (opsOf (subC (codeOf Try.f21) [1, 0, 1, 0, 1, 1, 0])) false := by kernel_rfl
theorem r21_7 {x3 : Int} {g0 g1 g2 g4 g5 g6 g7 g8 g9 g10 g11 g12 g13 : Value} {M : Mem} {call : CallM} {K : Array Value → Mem → R} :
    opsK Try.prog (fun _ => call) (opsOf (subC (codeOf Try.f21) [1, 0, 1, 0, 1, 1, 0])) (opsOf (subC (codeOf Try.f21) [1, 0, 1, 0, 1, 1, 0])).toList 0 #[g0, g1, g2, .int .i64 x3, g4, g5, g6, g7, g8, g9, g10, g11, g12, g13] M K = K #[g0, g1, g2, .int .i64 x3, g4, g5, g6, g7, g8, g9, .bool (x3 == 64), .bool (x3 == 64), g12, g13] M := by kernel_rfl
theorem c21_18 {x10 : Bool} {g0 g1 g2 g3 g4 g5 g6 g7 g8 g9 g11 g12 g13 : Value} : subC (codeOf Try.f21) [1, 0, 1, 0, 1, 1, 1] = .cond (.tmp 10) (subC (codeOf Try.f21) [1, 0, 1, 0, 1, 1, 1, 0]) (subC (codeOf Try.f21) [1, 0, 1, 0, 1, 1, 1, 1]) ∧ okOperand (.tmp 10) = true ∧ evalT #[g0, g1, g2, g3, g4, g5, g6, g7, g8, g9, .bool x10, g11, g12, g13] (.tmp 10) = .bool x10 := ⟨by kernel_rfl, by kernel_rfl, by kernel_rfl⟩
theorem k21_19 : subC (codeOf Try.f21) [1, 0, 1, 0, 1, 1, 1, 0] = .seq (subC (codeOf Try.f21) [1, 0, 1, 0, 1, 1, 1, 0, 0]) (subC (codeOf Try.f21) [1, 0, 1, 0, 1, 1, 1, 0, 1]) := by kernel_rfl
theorem k21_20 : subC (codeOf Try.f21) [1, 0, 1, 0, 1, 1, 1, 0, 0] = .region 8 (opsOf (subC (codeOf Try.f21) [1, 0, 1, 0, 1, 1, 1, 0, 0])) false := by kernel_rfl
theorem r21_8 {x0 : Int} {g1 g2 g3 g4 g5 g6 g7 g8 g9 g10 g11 g12 g13 : Value} {M : Mem} {call : CallM} {K : Array Value → Mem → R} :
    opsK Try.prog (fun _ => call) (opsOf (subC (codeOf Try.f21) [1, 0, 1, 0, 1, 1, 1, 0, 0])) (opsOf (subC (codeOf Try.f21) [1, 0, 1, 0, 1, 1, 1, 0, 0])).toList 0 #[.int .i64 x0, g1, g2, g3, g4, g5, g6, g7, g8, g9, g10, g11, g12, g13] M K = K #[.int .i64 x0, g1, .int .i64 (IntKind.i64.wrap (x0.tdiv 2)), g3, g4, g5, g6, g7, g8, g9, g10, g11, .int .i64 x0, .int .i64 (IntKind.i64.wrap (x0.tdiv 2))] M := by kernel_rfl
theorem k21_21 : subC (codeOf Try.f21) [1, 0, 1, 0, 1, 1, 1, 0, 1] = .ret := by kernel_rfl
theorem k21_22 : subC (codeOf Try.f21) [1, 0, 1, 0, 1, 1, 1, 1] = .skip := by kernel_rfl
theorem k21_23 : subC (codeOf Try.f21) [1, 1] = .seq (subC (codeOf Try.f21) [1, 1, 0]) (subC (codeOf Try.f21) [1, 1, 1]) := by kernel_rfl
theorem k21_24 : subC (codeOf Try.f21) [1, 1, 0] = .region 9 (opsOf (subC (codeOf Try.f21) [1, 1, 0])) false := by kernel_rfl
theorem r21_9 {g0 g1 g2 g3 g4 g5 g6 g7 g8 g9 g10 g11 g12 g13 : Value} {M : Mem} {call : CallM} {K : Array Value → Mem → R} :
    opsK Try.prog (fun _ => call) (opsOf (subC (codeOf Try.f21) [1, 1, 0])) (opsOf (subC (codeOf Try.f21) [1, 1, 0])).toList 0 #[g0, g1, g2, g3, g4, g5, g6, g7, g8, g9, g10, g11, g12, g13] M K = K #[g0, g1, .int .i64 0, g3, g4, g5, g6, g7, g8, g9, g10, g11, g12, g13] M := by kernel_rfl
theorem k21_25 : subC (codeOf Try.f21) [1, 1, 1] = .ret := by kernel_rfl
theorem k21_26 : subC (codeOf Try.f21) [1, 0, 1, 0, 0, 1, 1] = .seq (subC (codeOf Try.f21) [1, 0, 1, 0, 0, 1, 1, 0]) (subC (codeOf Try.f21) [1, 0, 1, 0, 0, 1, 1, 1]) := by kernel_rfl
theorem k21_27 : subC (codeOf Try.f21) [1, 0, 1, 0, 0, 1, 1, 0] = .region 3 (opsOf (subC (codeOf Try.f21) [1, 0, 1, 0, 0, 1, 1, 0])) false := by kernel_rfl
theorem r21_3 {x3 : Int} {g0 g1 g2 g4 g5 g6 g7 g8 g9 g10 g11 g12 g13 : Value} {M : Mem} {call : CallM} {K : Array Value → Mem → R} :
    opsK Try.prog (fun _ => call) (opsOf (subC (codeOf Try.f21) [1, 0, 1, 0, 0, 1, 1, 0])) (opsOf (subC (codeOf Try.f21) [1, 0, 1, 0, 0, 1, 1, 0])).toList 0 #[g0, g1, g2, .int .i64 x3, g4, g5, g6, g7, g8, g9, g10, g11, g12, g13] M K = K #[g0, g1, g2, .int .i64 x3, .bool (x3 == 8), g5, .bool (x3 == 8), g7, g8, g9, g10, g11, g12, g13] M := by kernel_rfl
theorem c21_28 {x4 : Bool} {g0 g1 g2 g3 g5 g6 g7 g8 g9 g10 g11 g12 g13 : Value} : subC (codeOf Try.f21) [1, 0, 1, 0, 0, 1, 1, 1] = .cond (.tmp 4) (subC (codeOf Try.f21) [1, 0, 1, 0, 0, 1, 1, 1, 0]) (subC (codeOf Try.f21) [1, 0, 1, 0, 0, 1, 1, 1, 1]) ∧ okOperand (.tmp 4) = true ∧ evalT #[g0, g1, g2, g3, .bool x4, g5, g6, g7, g8, g9, g10, g11, g12, g13] (.tmp 4) = .bool x4 := ⟨by kernel_rfl, by kernel_rfl, by kernel_rfl⟩
theorem k21_29 : subC (codeOf Try.f21) [1, 0, 1, 0, 0, 1, 1, 1, 0] = .skip := by kernel_rfl
theorem k21_30 : subC (codeOf Try.f21) [1, 0, 1, 0, 0, 1, 1, 1, 1] = .seq (subC (codeOf Try.f21) [1, 0, 1, 0, 0, 1, 1, 1, 1, 0]) (subC (codeOf Try.f21) [1, 0, 1, 0, 0, 1, 1, 1, 1, 1]) := by kernel_rfl
theorem k21_31 : subC (codeOf Try.f21) [1, 0, 1, 0, 0, 1, 1, 1, 1, 0] = .region 4 (opsOf (subC (codeOf Try.f21) [1, 0, 1, 0, 0, 1, 1, 1, 1, 0])) false := by kernel_rfl
theorem r21_4 {x3 : Int} {g0 g1 g2 g4 g5 g6 g7 g8 g9 g10 g11 g12 g13 : Value} {M : Mem} {call : CallM} {K : Array Value → Mem → R} :
    opsK Try.prog (fun _ => call) (opsOf (subC (codeOf Try.f21) [1, 0, 1, 0, 0, 1, 1, 1, 1, 0])) (opsOf (subC (codeOf Try.f21) [1, 0, 1, 0, 0, 1, 1, 1, 1, 0])).toList 0 #[g0, g1, g2, .int .i64 x3, g4, g5, g6, g7, g8, g9, g10, g11, g12, g13] M K = K #[g0, g1, g2, .int .i64 x3, .bool (x3 == 16), g5, g6, .bool (x3 == 16), g8, g9, g10, g11, g12, g13] M := by kernel_rfl
theorem c21_32 {x4 : Bool} {g0 g1 g2 g3 g5 g6 g7 g8 g9 g10 g11 g12 g13 : Value} : subC (codeOf Try.f21) [1, 0, 1, 0, 0, 1, 1, 1, 1, 1] = .cond (.tmp 4) (subC (codeOf Try.f21) [1, 0, 1, 0, 0, 1, 1, 1, 1, 1, 0]) (subC (codeOf Try.f21) [1, 0, 1, 0, 0, 1, 1, 1, 1, 1, 1]) ∧ okOperand (.tmp 4) = true ∧ evalT #[g0, g1, g2, g3, .bool x4, g5, g6, g7, g8, g9, g10, g11, g12, g13] (.tmp 4) = .bool x4 := ⟨by kernel_rfl, by kernel_rfl, by kernel_rfl⟩
theorem k21_33 : subC (codeOf Try.f21) [1, 0, 1, 0, 0, 1, 1, 1, 1, 1, 0] = .skip := by kernel_rfl
theorem k21_34 : subC (codeOf Try.f21) [1, 0, 1, 0, 0, 1, 1, 1, 1, 1, 1] = .region 5 (opsOf (subC (codeOf Try.f21) [1, 0, 1, 0, 0, 1, 1, 1, 1, 1, 1])) false := by kernel_rfl
theorem r21_5 {x3 : Int} {g0 g1 g2 g4 g5 g6 g7 g8 g9 g10 g11 g12 g13 : Value} {M : Mem} {call : CallM} {K : Array Value → Mem → R} :
    opsK Try.prog (fun _ => call) (opsOf (subC (codeOf Try.f21) [1, 0, 1, 0, 0, 1, 1, 1, 1, 1, 1])) (opsOf (subC (codeOf Try.f21) [1, 0, 1, 0, 0, 1, 1, 1, 1, 1, 1])).toList 0 #[g0, g1, g2, .int .i64 x3, g4, g5, g6, g7, g8, g9, g10, g11, g12, g13] M K = K #[g0, g1, g2, .int .i64 x3, .bool (x3 == 32), g5, g6, g7, .bool (x3 == 32), g9, g10, g11, g12, g13] M := by kernel_rfl
theorem w21_0 {x0 : Int} {M : Mem} {Q : Value → Mem → Prop} (H :
    ((x0 = 4 →
     ((x0 = 4 →
      Q (.int .i64 x0) M) ∧
      (x0 ≠ 4 →
      ((x0 = 64 →
       Q (.int .i64 (IntKind.i64.wrap (x0.tdiv 2))) M) ∧
       (x0 ≠ 64 →
       Q (.int .i64 0) M))))) ∧
     (x0 ≠ 4 →
     ((x0 = 8 →
      ((x0 = 8 →
       Q (.int .i64 x0) M) ∧
       (x0 ≠ 8 →
       ((x0 = 64 →
        Q (.int .i64 (IntKind.i64.wrap (x0.tdiv 2))) M) ∧
        (x0 ≠ 64 →
        Q (.int .i64 0) M))))) ∧
      (x0 ≠ 8 →
      ((x0 = 16 →
       ((x0 = 16 →
        Q (.int .i64 x0) M) ∧
        (x0 ≠ 16 →
        ((x0 = 64 →
         Q (.int .i64 (IntKind.i64.wrap (x0.tdiv 2))) M) ∧
         (x0 ≠ 64 →
         Q (.int .i64 0) M))))) ∧
       (x0 ≠ 16 →
       ((x0 = 32 →
        Q (.int .i64 x0) M) ∧
        (x0 ≠ 32 →
        ((x0 = 64 →
         Q (.int .i64 (IntKind.i64.wrap (x0.tdiv 2))) M) ∧
         (x0 ≠ 64 →
         Q (.int .i64 0) M))))))))))) :
    Cn Try.prog 21 #[.int .i64 x0] M Q := by
  refine Cn.of b21 d21 t21 ?_
  refine Rn.seq k21_0 ?_
  refine Rn.region k21_1 (fun call K => r21_0) ?_
  refine Rch.leaf ?_
  refine Rn.seq k21_2 ?_
  refine Rn.seq k21_3 ?_
  refine Rn.region k21_4 (fun call K => r21_1) ?_
  refine Rch.leaf ?_
  refine Rn.block k21_5 ?_
  refine Rn.seq k21_6 ?_
  refine Rn.seq k21_7 ?_
  refine Rn.region k21_8 (fun call K => r21_2) ?_
  refine Rch.leaf ?_
  refine Rn.cnd c21_9 (fun h => ?_) (fun h => ?_)
  · replace H := H.1 (eq_of_beq h)
    refine Rn.skip k21_10 ?_
    refine Rn.cnd c21_11 (fun h => ?_) (fun h => ?_)
    · replace H := H.1 (eq_of_beq h)
      refine Rn.seq k21_12 ?_
      refine Rn.region k21_13 (fun call K => r21_6) ?_
      refine Rch.leaf ?_
      exact Rn.ret k21_14 e21 H
    · replace H := H.2 (ne_of_beq_false h)
      refine Rn.seq k21_16 ?_
      refine Rn.region k21_17 (fun call K => r21_7) ?_
      refine Rch.leaf ?_
      refine Rn.cnd c21_18 (fun h => ?_) (fun h => ?_)
      · replace H := H.1 (eq_of_beq h)
        refine Rn.seq k21_19 ?_
        refine Rn.region k21_20 (fun call K => r21_8) ?_
        refine Rch.leaf ?_
        exact Rn.ret k21_21 e21 H
      · replace H := H.2 (ne_of_beq_false h)
        refine Rn.skip k21_22 ?_
        refine Rn.blk ?_
        refine Rn.seq k21_23 ?_
        refine Rn.region k21_24 (fun call K => r21_9) ?_
        refine Rch.leaf ?_
        exact Rn.ret k21_25 e21 H
  · replace H := H.2 (ne_of_beq_false h)
    refine Rn.seq k21_26 ?_
    refine Rn.region k21_27 (fun call K => r21_3) ?_
    refine Rch.leaf ?_
    refine Rn.cnd c21_28 (fun h => ?_) (fun h => ?_)
    · replace H := H.1 (eq_of_beq h)
      refine Rn.skip k21_29 ?_
      refine Rn.cnd c21_11 (fun h => ?_) (fun h => ?_)
      · replace H := H.1 (eq_of_beq h)
        refine Rn.seq k21_12 ?_
        refine Rn.region k21_13 (fun call K => r21_6) ?_
        refine Rch.leaf ?_
        exact Rn.ret k21_14 e21 H
      · replace H := H.2 (ne_of_beq_false h)
        refine Rn.seq k21_16 ?_
        refine Rn.region k21_17 (fun call K => r21_7) ?_
        refine Rch.leaf ?_
        refine Rn.cnd c21_18 (fun h => ?_) (fun h => ?_)
        · replace H := H.1 (eq_of_beq h)
          refine Rn.seq k21_19 ?_
          refine Rn.region k21_20 (fun call K => r21_8) ?_
          refine Rch.leaf ?_
          exact Rn.ret k21_21 e21 H
        · replace H := H.2 (ne_of_beq_false h)
          refine Rn.skip k21_22 ?_
          refine Rn.blk ?_
          refine Rn.seq k21_23 ?_
          refine Rn.region k21_24 (fun call K => r21_9) ?_
          refine Rch.leaf ?_
          exact Rn.ret k21_25 e21 H
    · replace H := H.2 (ne_of_beq_false h)
      refine Rn.seq k21_30 ?_
      refine Rn.region k21_31 (fun call K => r21_4) ?_
      refine Rch.leaf ?_
      refine Rn.cnd c21_32 (fun h => ?_) (fun h => ?_)
      · replace H := H.1 (eq_of_beq h)
        refine Rn.skip k21_33 ?_
        refine Rn.cnd c21_11 (fun h => ?_) (fun h => ?_)
        · replace H := H.1 (eq_of_beq h)
          refine Rn.seq k21_12 ?_
          refine Rn.region k21_13 (fun call K => r21_6) ?_
          refine Rch.leaf ?_
          exact Rn.ret k21_14 e21 H
        · replace H := H.2 (ne_of_beq_false h)
          refine Rn.seq k21_16 ?_
          refine Rn.region k21_17 (fun call K => r21_7) ?_
          refine Rch.leaf ?_
          refine Rn.cnd c21_18 (fun h => ?_) (fun h => ?_)
          · replace H := H.1 (eq_of_beq h)
            refine Rn.seq k21_19 ?_
            refine Rn.region k21_20 (fun call K => r21_8) ?_
            refine Rch.leaf ?_
            exact Rn.ret k21_21 e21 H
          · replace H := H.2 (ne_of_beq_false h)
            refine Rn.skip k21_22 ?_
            refine Rn.blk ?_
            refine Rn.seq k21_23 ?_
            refine Rn.region k21_24 (fun call K => r21_9) ?_
            refine Rch.leaf ?_
            exact Rn.ret k21_25 e21 H
      · replace H := H.2 (ne_of_beq_false h)
        refine Rn.region k21_34 (fun call K => r21_5) ?_
        refine Rch.leaf ?_
        refine Rn.cnd c21_11 (fun h => ?_) (fun h => ?_)
        · replace H := H.1 (eq_of_beq h)
          refine Rn.seq k21_12 ?_
          refine Rn.region k21_13 (fun call K => r21_6) ?_
          refine Rch.leaf ?_
          exact Rn.ret k21_14 e21 H
        · replace H := H.2 (ne_of_beq_false h)
          refine Rn.seq k21_16 ?_
          refine Rn.region k21_17 (fun call K => r21_7) ?_
          refine Rch.leaf ?_
          refine Rn.cnd c21_18 (fun h => ?_) (fun h => ?_)
          · replace H := H.1 (eq_of_beq h)
            refine Rn.seq k21_19 ?_
            refine Rn.region k21_20 (fun call K => r21_8) ?_
            refine Rch.leaf ?_
            exact Rn.ret k21_21 e21 H
          · replace H := H.2 (ne_of_beq_false h)
            refine Rn.skip k21_22 ?_
            refine Rn.blk ?_
            refine Rn.seq k21_23 ?_
            refine Rn.region k21_24 (fun call K => r21_9) ?_
            refine Rch.leaf ?_
            exact Rn.ret k21_25 e21 H


/-! ### zoetrope/zoetroperef10.Side: function 22 -/
theorem b22 : Try.prog.funcs[22]? = some Try.f22 := by kernel_rfl
theorem d22 : Try.f22.body = some (subC (codeOf Try.f22) []) := by kernel_rfl
theorem t22 {x0 : Int} : #[.int .i64 x0] ++ Array.replicate (Try.f22.ntmps - (#[.int .i64 x0] : Array Value).size) undef = #[.int .i64 x0, undef, undef, undef, undef, undef, undef, undef, undef, undef, undef, undef] := by kernel_rfl
theorem k22_0 : subC (codeOf Try.f22) [] = .seq (subC (codeOf Try.f22) [0]) (subC (codeOf Try.f22) [1]) := by kernel_rfl
theorem k22_1 : subC (codeOf Try.f22) [0] = .region 0 (opsOf (subC (codeOf Try.f22) [0])) false := by kernel_rfl
theorem r22_0 {g0 g1 g2 g3 g4 g5 g6 g7 g8 g9 g10 g11 : Value} {M : Mem} {call : CallM} {K : Array Value → Mem → R} :
    opsK Try.prog (fun _ => call) (opsOf (subC (codeOf Try.f22) [0])) (opsOf (subC (codeOf Try.f22) [0])).toList 0 #[g0, g1, g2, g3, g4, g5, g6, g7, g8, g9, g10, g11] M K = K #[g0, g1, .int .i64 0, g3, g4, g5, g6, g7, g8, g9, g10, g11] M := by kernel_rfl
theorem k22_2 : subC (codeOf Try.f22) [1] = .seq (subC (codeOf Try.f22) [1, 0]) (subC (codeOf Try.f22) [1, 1]) := by kernel_rfl
theorem k22_3 : subC (codeOf Try.f22) [1, 0] = .seq (subC (codeOf Try.f22) [1, 0, 0]) (subC (codeOf Try.f22) [1, 0, 1]) := by kernel_rfl
theorem k22_4 : subC (codeOf Try.f22) [1, 0, 0] = .region 1 (opsOf (subC (codeOf Try.f22) [1, 0, 0])) false := by kernel_rfl
theorem r22_1 {x0 : Int} {g1 g2 g3 g4 g5 g6 g7 g8 g9 g10 g11 : Value} {M : Mem} {call : CallM} {K : Array Value → Mem → R} :
    opsK Try.prog (fun _ => call) (opsOf (subC (codeOf Try.f22) [1, 0, 0])) (opsOf (subC (codeOf Try.f22) [1, 0, 0])).toList 0 #[.int .i64 x0, g1, g2, g3, g4, g5, g6, g7, g8, g9, g10, g11] M K = K #[.int .i64 x0, g1, g2, .int .i64 x0, g4, g5, g6, g7, g8, g9, g10, g11] M := by kernel_rfl
theorem k22_5 : subC (codeOf Try.f22) [1, 0, 1] = .block 0 (subC (codeOf Try.f22) [1, 0, 1, 0]) := by kernel_rfl
theorem k22_6 : subC (codeOf Try.f22) [1, 0, 1, 0] = .seq (subC (codeOf Try.f22) [1, 0, 1, 0, 0]) (subC (codeOf Try.f22) [1, 0, 1, 0, 1]) := by kernel_rfl
theorem k22_7 : subC (codeOf Try.f22) [1, 0, 1, 0, 0] = .seq (subC (codeOf Try.f22) [1, 0, 1, 0, 0, 0]) (subC (codeOf Try.f22) [1, 0, 1, 0, 0, 1]) := by kernel_rfl
theorem k22_8 : subC (codeOf Try.f22) [1, 0, 1, 0, 0, 0] = .region 2 (opsOf (subC (codeOf Try.f22) [1, 0, 1, 0, 0, 0])) false := by kernel_rfl
theorem r22_2 {x3 : Int} {g0 g1 g2 g4 g5 g6 g7 g8 g9 g10 g11 : Value} {M : Mem} {call : CallM} {K : Array Value → Mem → R} :
    opsK Try.prog (fun _ => call) (opsOf (subC (codeOf Try.f22) [1, 0, 1, 0, 0, 0])) (opsOf (subC (codeOf Try.f22) [1, 0, 1, 0, 0, 0])).toList 0 #[g0, g1, g2, .int .i64 x3, g4, g5, g6, g7, g8, g9, g10, g11] M K = K #[g0, g1, g2, .int .i64 x3, .bool (x3 == 4), .bool (x3 == 4), g6, g7, g8, g9, g10, g11] M := by kernel_rfl
theorem c22_9 {x4 : Bool} {g0 g1 g2 g3 g5 g6 g7 g8 g9 g10 g11 : Value} : subC (codeOf Try.f22) [1, 0, 1, 0, 0, 1] = .cond (.tmp 4) (subC (codeOf Try.f22) [1, 0, 1, 0, 0, 1, 0]) (subC (codeOf Try.f22) [1, 0, 1, 0, 0, 1, 1]) ∧ okOperand (.tmp 4) = true ∧ evalT #[g0, g1, g2, g3, .bool x4, g5, g6, g7, g8, g9, g10, g11] (.tmp 4) = .bool x4 := ⟨by kernel_rfl, by kernel_rfl, by kernel_rfl⟩
theorem k22_10 : subC (codeOf Try.f22) [1, 0, 1, 0, 0, 1, 0] = .skip := by kernel_rfl
theorem c22_11 {x4 : Bool} {g0 g1 g2 g3 g5 g6 g7 g8 g9 g10 g11 : Value} : subC (codeOf Try.f22) [1, 0, 1, 0, 1] = .cond (.tmp 4) (subC (codeOf Try.f22) [1, 0, 1, 0, 1, 0]) (subC (codeOf Try.f22) [1, 0, 1, 0, 1, 1]) ∧ okOperand (.tmp 4) = true ∧ evalT #[g0, g1, g2, g3, .bool x4, g5, g6, g7, g8, g9, g10, g11] (.tmp 4) = .bool x4 := ⟨by kernel_rfl, by kernel_rfl, by kernel_rfl⟩
theorem k22_12 : subC (codeOf Try.f22) [1, 0, 1, 0, 1, 0] = .seq (subC (codeOf Try.f22) [1, 0, 1, 0, 1, 0, 0]) (subC (codeOf Try.f22) [1, 0, 1, 0, 1, 0, 1]) := by kernel_rfl
theorem k22_13 : subC (codeOf Try.f22) [1, 0, 1, 0, 1, 0, 0] = .region 6 (opsOf (subC (codeOf Try.f22) [1, 0, 1, 0, 1, 0, 0])) false := by kernel_rfl
theorem r22_6 {x0 : Int} {g1 g2 g3 g4 g5 g6 g7 g8 g9 g10 g11 : Value} {M : Mem} {call : CallM} {K : Array Value → Mem → R} :
    opsK Try.prog (fun _ => call) (opsOf (subC (codeOf Try.f22) [1, 0, 1, 0, 1, 0, 0])) (opsOf (subC (codeOf Try.f22) [1, 0, 1, 0, 1, 0, 0])).toList 0 #[.int .i64 x0, g1, g2, g3, g4, g5, g6, g7, g8, g9, g10, g11] M K = K #[.int .i64 x0, g1, .int .i64 x0, g3, g4, g5, g6, g7, g8, .int .i64 x0, g10, g11] M := by kernel_rfl
theorem k22_14 : subC (codeOf Try.f22) [1, 0, 1, 0, 1, 0, 1] = .ret := by kernel_rfl
theorem e22 {g0 g1 g2 g3 g4 g5 g6 g7 g8 g9 g10 g11 : Value} {M : Mem} : finish Try.prog Try.f22 #[g0, g1, g2, g3, g4, g5, g6, g7, g8, g9, g10, g11] M = some (g2, M) := by kernel_rfl
theorem k22_16 : subC (codeOf Try.f22) [1, 0, 1, 0, 1, 1] = .seq (subC (codeOf Try.f22) [1, 0, 1, 0, 1, 1, 0]) (subC (codeOf Try.f22) [1, 0, 1, 0, 1, 1, 1]) := by kernel_rfl
theorem k22_17 : subC (codeOf Try.f22) [1, 0, 1, 0, 1, 1, 0] = .region 7 (opsOf (subC (codeOf Try.f22) [1, 0, 1, 0, 1, 1, 0])) false := by kernel_rfl
theorem r22_7 {x3 : Int} {g0 g1 g2 g4 g5 g6 g7 g8 g9 g10 g11 : Value} {M : Mem} {call : CallM} {K : Array Value → Mem → R} :
    opsK Try.prog (fun _ => call) (opsOf (subC (codeOf Try.f22) [1, 0, 1, 0, 1, 1, 0])) (opsOf (subC (codeOf Try.f22) [1, 0, 1, 0, 1, 1, 0])).toList 0 #[g0, g1, g2, .int .i64 x3, g4, g5, g6, g7, g8, g9, g10, g11] M K = K #[g0, g1, g2, .int .i64 x3, g4, g5, g6, g7, g8, g9, .bool (x3 == 64), .bool (x3 == 64)] M := by kernel_rfl
theorem c22_18 {x10 : Bool} {g0 g1 g2 g3 g4 g5 g6 g7 g8 g9 g11 : Value} : subC (codeOf Try.f22) [1, 0, 1, 0, 1, 1, 1] = .cond (.tmp 10) (subC (codeOf Try.f22) [1, 0, 1, 0, 1, 1, 1, 0]) (subC (codeOf Try.f22) [1, 0, 1, 0, 1, 1, 1, 1]) ∧ okOperand (.tmp 10) = true ∧ evalT #[g0, g1, g2, g3, g4, g5, g6, g7, g8, g9, .bool x10, g11] (.tmp 10) = .bool x10 := ⟨by kernel_rfl, by kernel_rfl, by kernel_rfl⟩
theorem k22_19 : subC (codeOf Try.f22) [1, 0, 1, 0, 1, 1, 1, 0] = .seq (subC (codeOf Try.f22) [1, 0, 1, 0, 1, 1, 1, 0, 0]) (subC (codeOf Try.f22) [1, 0, 1, 0, 1, 1, 1, 0, 1]) := by kernel_rfl
theorem k22_20 : subC (codeOf Try.f22) [1, 0, 1, 0, 1, 1, 1, 0, 0] = .region 8 (opsOf (subC (codeOf Try.f22) [1, 0, 1, 0, 1, 1, 1, 0, 0])) false := by kernel_rfl
theorem r22_8 {g0 g1 g2 g3 g4 g5 g6 g7 g8 g9 g10 g11 : Value} {M : Mem} {call : CallM} {K : Array Value → Mem → R} :
    opsK Try.prog (fun _ => call) (opsOf (subC (codeOf Try.f22) [1, 0, 1, 0, 1, 1, 1, 0, 0])) (opsOf (subC (codeOf Try.f22) [1, 0, 1, 0, 1, 1, 1, 0, 0])).toList 0 #[g0, g1, g2, g3, g4, g5, g6, g7, g8, g9, g10, g11] M K = K #[g0, g1, .int .i64 32, g3, g4, g5, g6, g7, g8, g9, g10, g11] M := by kernel_rfl
theorem k22_21 : subC (codeOf Try.f22) [1, 0, 1, 0, 1, 1, 1, 0, 1] = .ret := by kernel_rfl
theorem k22_22 : subC (codeOf Try.f22) [1, 0, 1, 0, 1, 1, 1, 1] = .skip := by kernel_rfl
theorem k22_23 : subC (codeOf Try.f22) [1, 1] = .seq (subC (codeOf Try.f22) [1, 1, 0]) (subC (codeOf Try.f22) [1, 1, 1]) := by kernel_rfl
theorem k22_24 : subC (codeOf Try.f22) [1, 1, 0] = .region 9 (opsOf (subC (codeOf Try.f22) [1, 1, 0])) false := by kernel_rfl
theorem r22_9 {g0 g1 g2 g3 g4 g5 g6 g7 g8 g9 g10 g11 : Value} {M : Mem} {call : CallM} {K : Array Value → Mem → R} :
    opsK Try.prog (fun _ => call) (opsOf (subC (codeOf Try.f22) [1, 1, 0])) (opsOf (subC (codeOf Try.f22) [1, 1, 0])).toList 0 #[g0, g1, g2, g3, g4, g5, g6, g7, g8, g9, g10, g11] M K = K #[g0, g1, .int .i64 0, g3, g4, g5, g6, g7, g8, g9, g10, g11] M := by kernel_rfl
theorem k22_25 : subC (codeOf Try.f22) [1, 1, 1] = .ret := by kernel_rfl
theorem k22_26 : subC (codeOf Try.f22) [1, 0, 1, 0, 0, 1, 1] = .seq (subC (codeOf Try.f22) [1, 0, 1, 0, 0, 1, 1, 0]) (subC (codeOf Try.f22) [1, 0, 1, 0, 0, 1, 1, 1]) := by kernel_rfl
theorem k22_27 : subC (codeOf Try.f22) [1, 0, 1, 0, 0, 1, 1, 0] = .region 3 (opsOf (subC (codeOf Try.f22) [1, 0, 1, 0, 0, 1, 1, 0])) false := by kernel_rfl
theorem r22_3 {x3 : Int} {g0 g1 g2 g4 g5 g6 g7 g8 g9 g10 g11 : Value} {M : Mem} {call : CallM} {K : Array Value → Mem → R} :
    opsK Try.prog (fun _ => call) (opsOf (subC (codeOf Try.f22) [1, 0, 1, 0, 0, 1, 1, 0])) (opsOf (subC (codeOf Try.f22) [1, 0, 1, 0, 0, 1, 1, 0])).toList 0 #[g0, g1, g2, .int .i64 x3, g4, g5, g6, g7, g8, g9, g10, g11] M K = K #[g0, g1, g2, .int .i64 x3, .bool (x3 == 8), g5, .bool (x3 == 8), g7, g8, g9, g10, g11] M := by kernel_rfl
theorem c22_28 {x4 : Bool} {g0 g1 g2 g3 g5 g6 g7 g8 g9 g10 g11 : Value} : subC (codeOf Try.f22) [1, 0, 1, 0, 0, 1, 1, 1] = .cond (.tmp 4) (subC (codeOf Try.f22) [1, 0, 1, 0, 0, 1, 1, 1, 0]) (subC (codeOf Try.f22) [1, 0, 1, 0, 0, 1, 1, 1, 1]) ∧ okOperand (.tmp 4) = true ∧ evalT #[g0, g1, g2, g3, .bool x4, g5, g6, g7, g8, g9, g10, g11] (.tmp 4) = .bool x4 := ⟨by kernel_rfl, by kernel_rfl, by kernel_rfl⟩
theorem k22_29 : subC (codeOf Try.f22) [1, 0, 1, 0, 0, 1, 1, 1, 0] = .skip := by kernel_rfl
theorem k22_30 : subC (codeOf Try.f22) [1, 0, 1, 0, 0, 1, 1, 1, 1] = .seq (subC (codeOf Try.f22) [1, 0, 1, 0, 0, 1, 1, 1, 1, 0]) (subC (codeOf Try.f22) [1, 0, 1, 0, 0, 1, 1, 1, 1, 1]) := by kernel_rfl
theorem k22_31 : subC (codeOf Try.f22) [1, 0, 1, 0, 0, 1, 1, 1, 1, 0] = .region 4 (opsOf (subC (codeOf Try.f22) [1, 0, 1, 0, 0, 1, 1, 1, 1, 0])) false := by kernel_rfl
theorem r22_4 {x3 : Int} {g0 g1 g2 g4 g5 g6 g7 g8 g9 g10 g11 : Value} {M : Mem} {call : CallM} {K : Array Value → Mem → R} :
    opsK Try.prog (fun _ => call) (opsOf (subC (codeOf Try.f22) [1, 0, 1, 0, 0, 1, 1, 1, 1, 0])) (opsOf (subC (codeOf Try.f22) [1, 0, 1, 0, 0, 1, 1, 1, 1, 0])).toList 0 #[g0, g1, g2, .int .i64 x3, g4, g5, g6, g7, g8, g9, g10, g11] M K = K #[g0, g1, g2, .int .i64 x3, .bool (x3 == 16), g5, g6, .bool (x3 == 16), g8, g9, g10, g11] M := by kernel_rfl
theorem c22_32 {x4 : Bool} {g0 g1 g2 g3 g5 g6 g7 g8 g9 g10 g11 : Value} : subC (codeOf Try.f22) [1, 0, 1, 0, 0, 1, 1, 1, 1, 1] = .cond (.tmp 4) (subC (codeOf Try.f22) [1, 0, 1, 0, 0, 1, 1, 1, 1, 1, 0]) (subC (codeOf Try.f22) [1, 0, 1, 0, 0, 1, 1, 1, 1, 1, 1]) ∧ okOperand (.tmp 4) = true ∧ evalT #[g0, g1, g2, g3, .bool x4, g5, g6, g7, g8, g9, g10, g11] (.tmp 4) = .bool x4 := ⟨by kernel_rfl, by kernel_rfl, by kernel_rfl⟩
theorem k22_33 : subC (codeOf Try.f22) [1, 0, 1, 0, 0, 1, 1, 1, 1, 1, 0] = .skip := by kernel_rfl
theorem k22_34 : subC (codeOf Try.f22) [1, 0, 1, 0, 0, 1, 1, 1, 1, 1, 1] = .region 5 (opsOf (subC (codeOf Try.f22) [1, 0, 1, 0, 0, 1, 1, 1, 1, 1, 1])) false := by kernel_rfl
theorem r22_5 {x3 : Int} {g0 g1 g2 g4 g5 g6 g7 g8 g9 g10 g11 : Value} {M : Mem} {call : CallM} {K : Array Value → Mem → R} :
    opsK Try.prog (fun _ => call) (opsOf (subC (codeOf Try.f22) [1, 0, 1, 0, 0, 1, 1, 1, 1, 1, 1])) (opsOf (subC (codeOf Try.f22) [1, 0, 1, 0, 0, 1, 1, 1, 1, 1, 1])).toList 0 #[g0, g1, g2, .int .i64 x3, g4, g5, g6, g7, g8, g9, g10, g11] M K = K #[g0, g1, g2, .int .i64 x3, .bool (x3 == 32), g5, g6, g7, .bool (x3 == 32), g9, g10, g11] M := by kernel_rfl
theorem w22_0 {x0 : Int} {M : Mem} {Q : Value → Mem → Prop} (H :
    ((x0 = 4 →
     ((x0 = 4 →
      Q (.int .i64 x0) M) ∧
      (x0 ≠ 4 →
      ((x0 = 64 →
       Q (.int .i64 32) M) ∧
       (x0 ≠ 64 →
       Q (.int .i64 0) M))))) ∧
     (x0 ≠ 4 →
     ((x0 = 8 →
      ((x0 = 8 →
       Q (.int .i64 x0) M) ∧
       (x0 ≠ 8 →
       ((x0 = 64 →
        Q (.int .i64 32) M) ∧
        (x0 ≠ 64 →
        Q (.int .i64 0) M))))) ∧
      (x0 ≠ 8 →
      ((x0 = 16 →
       ((x0 = 16 →
        Q (.int .i64 x0) M) ∧
        (x0 ≠ 16 →
        ((x0 = 64 →
         Q (.int .i64 32) M) ∧
         (x0 ≠ 64 →
         Q (.int .i64 0) M))))) ∧
       (x0 ≠ 16 →
       ((x0 = 32 →
        Q (.int .i64 x0) M) ∧
        (x0 ≠ 32 →
        ((x0 = 64 →
         Q (.int .i64 32) M) ∧
         (x0 ≠ 64 →
         Q (.int .i64 0) M))))))))))) :
    Cn Try.prog 22 #[.int .i64 x0] M Q := by
  refine Cn.of b22 d22 t22 ?_
  refine Rn.seq k22_0 ?_
  refine Rn.region k22_1 (fun call K => r22_0) ?_
  refine Rch.leaf ?_
  refine Rn.seq k22_2 ?_
  refine Rn.seq k22_3 ?_
  refine Rn.region k22_4 (fun call K => r22_1) ?_
  refine Rch.leaf ?_
  refine Rn.block k22_5 ?_
  refine Rn.seq k22_6 ?_
  refine Rn.seq k22_7 ?_
  refine Rn.region k22_8 (fun call K => r22_2) ?_
  refine Rch.leaf ?_
  refine Rn.cnd c22_9 (fun h => ?_) (fun h => ?_)
  · replace H := H.1 (eq_of_beq h)
    refine Rn.skip k22_10 ?_
    refine Rn.cnd c22_11 (fun h => ?_) (fun h => ?_)
    · replace H := H.1 (eq_of_beq h)
      refine Rn.seq k22_12 ?_
      refine Rn.region k22_13 (fun call K => r22_6) ?_
      refine Rch.leaf ?_
      exact Rn.ret k22_14 e22 H
    · replace H := H.2 (ne_of_beq_false h)
      refine Rn.seq k22_16 ?_
      refine Rn.region k22_17 (fun call K => r22_7) ?_
      refine Rch.leaf ?_
      refine Rn.cnd c22_18 (fun h => ?_) (fun h => ?_)
      · replace H := H.1 (eq_of_beq h)
        refine Rn.seq k22_19 ?_
        refine Rn.region k22_20 (fun call K => r22_8) ?_
        refine Rch.leaf ?_
        exact Rn.ret k22_21 e22 H
      · replace H := H.2 (ne_of_beq_false h)
        refine Rn.skip k22_22 ?_
        refine Rn.blk ?_
        refine Rn.seq k22_23 ?_
        refine Rn.region k22_24 (fun call K => r22_9) ?_
        refine Rch.leaf ?_
        exact Rn.ret k22_25 e22 H
  · replace H := H.2 (ne_of_beq_false h)
    refine Rn.seq k22_26 ?_
    refine Rn.region k22_27 (fun call K => r22_3) ?_
    refine Rch.leaf ?_
    refine Rn.cnd c22_28 (fun h => ?_) (fun h => ?_)
    · replace H := H.1 (eq_of_beq h)
      refine Rn.skip k22_29 ?_
      refine Rn.cnd c22_11 (fun h => ?_) (fun h => ?_)
      · replace H := H.1 (eq_of_beq h)
        refine Rn.seq k22_12 ?_
        refine Rn.region k22_13 (fun call K => r22_6) ?_
        refine Rch.leaf ?_
        exact Rn.ret k22_14 e22 H
      · replace H := H.2 (ne_of_beq_false h)
        refine Rn.seq k22_16 ?_
        refine Rn.region k22_17 (fun call K => r22_7) ?_
        refine Rch.leaf ?_
        refine Rn.cnd c22_18 (fun h => ?_) (fun h => ?_)
        · replace H := H.1 (eq_of_beq h)
          refine Rn.seq k22_19 ?_
          refine Rn.region k22_20 (fun call K => r22_8) ?_
          refine Rch.leaf ?_
          exact Rn.ret k22_21 e22 H
        · replace H := H.2 (ne_of_beq_false h)
          refine Rn.skip k22_22 ?_
          refine Rn.blk ?_
          refine Rn.seq k22_23 ?_
          refine Rn.region k22_24 (fun call K => r22_9) ?_
          refine Rch.leaf ?_
          exact Rn.ret k22_25 e22 H
    · replace H := H.2 (ne_of_beq_false h)
      refine Rn.seq k22_30 ?_
      refine Rn.region k22_31 (fun call K => r22_4) ?_
      refine Rch.leaf ?_
      refine Rn.cnd c22_32 (fun h => ?_) (fun h => ?_)
      · replace H := H.1 (eq_of_beq h)
        refine Rn.skip k22_33 ?_
        refine Rn.cnd c22_11 (fun h => ?_) (fun h => ?_)
        · replace H := H.1 (eq_of_beq h)
          refine Rn.seq k22_12 ?_
          refine Rn.region k22_13 (fun call K => r22_6) ?_
          refine Rch.leaf ?_
          exact Rn.ret k22_14 e22 H
        · replace H := H.2 (ne_of_beq_false h)
          refine Rn.seq k22_16 ?_
          refine Rn.region k22_17 (fun call K => r22_7) ?_
          refine Rch.leaf ?_
          refine Rn.cnd c22_18 (fun h => ?_) (fun h => ?_)
          · replace H := H.1 (eq_of_beq h)
            refine Rn.seq k22_19 ?_
            refine Rn.region k22_20 (fun call K => r22_8) ?_
            refine Rch.leaf ?_
            exact Rn.ret k22_21 e22 H
          · replace H := H.2 (ne_of_beq_false h)
            refine Rn.skip k22_22 ?_
            refine Rn.blk ?_
            refine Rn.seq k22_23 ?_
            refine Rn.region k22_24 (fun call K => r22_9) ?_
            refine Rch.leaf ?_
            exact Rn.ret k22_25 e22 H
      · replace H := H.2 (ne_of_beq_false h)
        refine Rn.region k22_34 (fun call K => r22_5) ?_
        refine Rch.leaf ?_
        refine Rn.cnd c22_11 (fun h => ?_) (fun h => ?_)
        · replace H := H.1 (eq_of_beq h)
          refine Rn.seq k22_12 ?_
          refine Rn.region k22_13 (fun call K => r22_6) ?_
          refine Rch.leaf ?_
          exact Rn.ret k22_14 e22 H
        · replace H := H.2 (ne_of_beq_false h)
          refine Rn.seq k22_16 ?_
          refine Rn.region k22_17 (fun call K => r22_7) ?_
          refine Rch.leaf ?_
          refine Rn.cnd c22_18 (fun h => ?_) (fun h => ?_)
          · replace H := H.1 (eq_of_beq h)
            refine Rn.seq k22_19 ?_
            refine Rn.region k22_20 (fun call K => r22_8) ?_
            refine Rch.leaf ?_
            exact Rn.ret k22_21 e22 H
          · replace H := H.2 (ne_of_beq_false h)
            refine Rn.skip k22_22 ?_
            refine Rn.blk ?_
            refine Rn.seq k22_23 ?_
            refine Rn.region k22_24 (fun call K => r22_9) ?_
            refine Rch.leaf ?_
            exact Rn.ret k22_25 e22 H


/-! ### zoetrope/scan.Order: function 9 -/
theorem b9 : Try.prog.funcs[9]? = some Try.f9 := by kernel_rfl
theorem d9 : Try.f9.body = some (subC (codeOf Try.f9) []) := by kernel_rfl
theorem t9 {x0 : Int} : #[.int .i64 x0] ++ Array.replicate (Try.f9.ntmps - (#[.int .i64 x0] : Array Value).size) undef = #[.int .i64 x0, undef, undef, undef, undef, undef, undef, undef, undef, undef, undef, undef, undef, undef, undef, undef, undef, undef, undef, undef, undef, undef, undef, undef, undef, undef, undef, undef, undef, undef, undef, undef, undef, undef, undef, undef, undef, undef, undef, undef, undef, undef, undef, undef, undef, undef, undef, undef, undef, undef, undef, undef, undef, undef, undef, undef, undef] := by kernel_rfl
theorem k9_0 : subC (codeOf Try.f9) [] = .seq (subC (codeOf Try.f9) [0]) (subC (codeOf Try.f9) [1]) := by kernel_rfl
theorem k9_1 : subC (codeOf Try.f9) [0] = .region 0 (opsOf (subC (codeOf Try.f9) [0])) false := by kernel_rfl
theorem r9_0 {g0 g1 g2 g3 g4 g5 g6 g7 g8 g9 g10 g11 g12 g13 g14 g15 g16 g17 g18 g19 g20 g21 g22 g23 g24 g25 g26 g27 g28 g29 g30 g31 g32 g33 g34 g35 g36 g37 g38 g39 g40 g41 g42 g43 g44 g45 g46 g47 g48 g49 g50 g51 g52 g53 g54 g55 g56 : Value} {M : Mem} {call : CallM} {K : Array Value → Mem → R} :
    opsK Try.prog (fun _ => call) (opsOf (subC (codeOf Try.f9) [0])) (opsOf (subC (codeOf Try.f9) [0])).toList 0 #[g0, g1, g2, g3, g4, g5, g6, g7, g8, g9, g10, g11, g12, g13, g14, g15, g16, g17, g18, g19, g20, g21, g22, g23, g24, g25, g26, g27, g28, g29, g30, g31, g32, g33, g34, g35, g36, g37, g38, g39, g40, g41, g42, g43, g44, g45, g46, g47, g48, g49, g50, g51, g52, g53, g54, g55, g56] M K = K #[g0, g1, .slice none 0 0, .int .i64 0, g4, g5, g6, g7, g8, g9, g10, g11, g12, g13, g14, g15, g16, g17, g18, g19, g20, g21, g22, g23, g24, g25, g26, g27, g28, g29, g30, g31, g32, g33, g34, g35, g36, g37, g38, g39, g40, g41, g42, g43, g44, g45, g46, g47, g48, g49, g50, g51, g52, g53, g54, g55, g56] M := by kernel_rfl
theorem k9_2 : subC (codeOf Try.f9) [1] = .scope (subC (codeOf Try.f9) [1, 0]) := by kernel_rfl
theorem k9_3 : subC (codeOf Try.f9) [1, 0] = .seq (subC (codeOf Try.f9) [1, 0, 0]) (subC (codeOf Try.f9) [1, 0, 1]) := by kernel_rfl
theorem k9_4 : subC (codeOf Try.f9) [1, 0, 0] = .region 1 (opsOf (subC (codeOf Try.f9) [1, 0, 0])) false := by kernel_rfl
theorem r9_1 {x0 : Int} {g1 g2 g3 g4 g5 g6 g7 g8 g9 g10 g11 g12 g13 g14 g15 g16 g17 g18 g19 g20 g21 g22 g23 g24 g25 g26 g27 g28 g29 g30 g31 g32 g33 g34 g35 g36 g37 g38 g39 g40 g41 g42 g43 g44 g45 g46 g47 g48 g49 g50 g51 g52 g53 g54 g55 g56 : Value} {M : Mem} {call : CallM} {K : Array Value → Mem → R} :
    opsK Try.prog (fun _ => call) (opsOf (subC (codeOf Try.f9) [1, 0, 0])) (opsOf (subC (codeOf Try.f9) [1, 0, 0])).toList 0 #[.int .i64 x0, g1, g2, g3, g4, g5, g6, g7, g8, g9, g10, g11, g12, g13, g14, g15, g16, g17, g18, g19, g20, g21, g22, g23, g24, g25, g26, g27, g28, g29, g30, g31, g32, g33, g34, g35, g36, g37, g38, g39, g40, g41, g42, g43, g44, g45, g46, g47, g48, g49, g50, g51, g52, g53, g54, g55, g56] M K = (call 21 #[.int .i64 x0] M).bind fun r_1 => (asI .i64 r_1.1).bind fun x_2 => K #[.int .i64 x0, g1, g2, g3, .int .i64 x_2, g5, g6, g7, g8, .int .i64 x0, .int .i64 x_2, g11, g12, g13, g14, g15, g16, g17, g18, g19, g20, g21, g22, g23, g24, g25, g26, g27, g28, g29, g30, g31, g32, g33, g34, g35, g36, g37, g38, g39, g40, g41, g42, g43, g44, g45, g46, g47, g48, g49, g50, g51, g52, g53, g54, g55, g56] r_1.2 := by kernel_rfl
theorem k9_5 : subC (codeOf Try.f9) [1, 0, 1] = .seq (subC (codeOf Try.f9) [1, 0, 1, 0]) (subC (codeOf Try.f9) [1, 0, 1, 1]) := by kernel_rfl
theorem k9_6 : subC (codeOf Try.f9) [1, 0, 1, 0] = .seq (subC (codeOf Try.f9) [1, 0, 1, 0, 0]) (subC (codeOf Try.f9) [1, 0, 1, 0, 1]) := by kernel_rfl
theorem k9_7 : subC (codeOf Try.f9) [1, 0, 1, 0, 0] = .region 2 (opsOf (subC (codeOf Try.f9) [1, 0, 1, 0, 0])) false := by kernel_rfl
theorem r9_2 {x4 : Int} {g0 g1 g2 g3 g5 g6 g7 g8 g9 g10 g11 g12 g13 g14 g15 g16 g17 g18 g19 g20 g21 g22 g23 g24 g25 g26 g27 g28 g29 g30 g31 g32 g33 g34 g35 g36 g37 g38 g39 g40 g41 g42 g43 g44 g45 g46 g47 g48 g49 g50 g51 g52 g53 g54 g55 g56 : Value} {M : Mem} {call : CallM} {K : Array Value → Mem → R} :
    opsK Try.prog (fun _ => call) (opsOf (subC (codeOf Try.f9) [1, 0, 1, 0, 0])) (opsOf (subC (codeOf Try.f9) [1, 0, 1, 0, 0])).toList 0 #[g0, g1, g2, g3, .int .i64 x4, g5, g6, g7, g8, g9, g10, g11, g12, g13, g14, g15, g16, g17, g18, g19, g20, g21, g22, g23, g24, g25, g26, g27, g28, g29, g30, g31, g32, g33, g34, g35, g36, g37, g38, g39, g40, g41, g42, g43, g44, g45, g46, g47, g48, g49, g50, g51, g52, g53, g54, g55, g56] M K = K #[g0, g1, g2, g3, .int .i64 x4, g5, g6, g7, g8, g9, g10, .int .i64 x4, .bool (x4 == 0), g13, g14, g15, g16, g17, g18, g19, g20, g21, g22, g23, g24, g25, g26, g27, g28, g29, g30, g31, g32, g33, g34, g35, g36, g37, g38, g39, g40, g41, g42, g43, g44, g45, g46, g47, g48, g49, g50, g51, g52, g53, g54, g55, g56] M := by kernel_rfl
theorem c9_8 {x12 : Bool} {g0 g1 g2 g3 g4 g5 g6 g7 g8 g9 g10 g11 g13 g14 g15 g16 g17 g18 g19 g20 g21 g22 g23 g24 g25 g26 g27 g28 g29 g30 g31 g32 g33 g34 g35 g36 g37 g38 g39 g40 g41 g42 g43 g44 g45 g46 g47 g48 g49 g50 g51 g52 g53 g54 g55 g56 : Value} : subC (codeOf Try.f9) [1, 0, 1, 0, 1] = .cond (.tmp 12) (subC (codeOf Try.f9) [1, 0, 1, 0, 1, 0]) (subC (codeOf Try.f9) [1, 0, 1, 0, 1, 1]) ∧ okOperand (.tmp 12) = true ∧ evalT #[g0, g1, g2, g3, g4, g5, g6, g7, g8, g9, g10, g11, .bool x12, g13, g14, g15, g16, g17, g18, g19, g20, g21, g22, g23, g24, g25, g26, g27, g28, g29, g30, g31, g32, g33, g34, g35, g36, g37, g38, g39, g40, g41, g42, g43, g44, g45, g46, g47, g48, g49, g50, g51, g52, g53, g54, g55, g56] (.tmp 12) = .bool x12 := ⟨by kernel_rfl, by kernel_rfl, by kernel_rfl⟩
theorem k9_9 : subC (codeOf Try.f9) [1, 0, 1, 0, 1, 0] = .seq (subC (codeOf Try.f9) [1, 0, 1, 0, 1, 0, 0]) (subC (codeOf Try.f9) [1, 0, 1, 0, 1, 0, 1]) := by kernel_rfl
theorem k9_10 : subC (codeOf Try.f9) [1, 0, 1, 0, 1, 0, 0] = .region 3 (opsOf (subC (codeOf Try.f9) [1, 0, 1, 0, 1, 0, 0])) false := by kernel_rfl
theorem r9_3 {g0 g1 g2 g3 g4 g5 g6 g7 g8 g9 g10 g11 g12 g13 g14 g15 g16 g17 g18 g19 g20 g21 g22 g23 g24 g25 g26 g27 g28 g29 g30 g31 g32 g33 g34 g35 g36 g37 g38 g39 g40 g41 g42 g43 g44 g45 g46 g47 g48 g49 g50 g51 g52 g53 g54 g55 g56 : Value} {M : Mem} {call : CallM} {K : Array Value → Mem → R} :
    opsK Try.prog (fun _ => call) (opsOf (subC (codeOf Try.f9) [1, 0, 1, 0, 1, 0, 0])) (opsOf (subC (codeOf Try.f9) [1, 0, 1, 0, 1, 0, 0])).toList 0 #[g0, g1, g2, g3, g4, g5, g6, g7, g8, g9, g10, g11, g12, g13, g14, g15, g16, g17, g18, g19, g20, g21, g22, g23, g24, g25, g26, g27, g28, g29, g30, g31, g32, g33, g34, g35, g36, g37, g38, g39, g40, g41, g42, g43, g44, g45, g46, g47, g48, g49, g50, g51, g52, g53, g54, g55, g56] M K = K #[g0, g1, .slice none 0 0, .int .i64 2, g4, g5, g6, g7, g8, g9, g10, g11, g12, g13, g14, g15, g16, g17, g18, g19, g20, g21, g22, g23, g24, g25, g26, g27, g28, g29, g30, g31, g32, g33, g34, g35, g36, g37, g38, g39, g40, g41, g42, g43, g44, g45, g46, g47, g48, g49, g50, g51, g52, g53, g54, g55, g56] M := by kernel_rfl
theorem k9_11 : subC (codeOf Try.f9) [1, 0, 1, 0, 1, 0, 1] = .ret := by kernel_rfl
theorem e9 {g0 g1 g2 g3 g4 g5 g6 g7 g8 g9 g10 g11 g12 g13 g14 g15 g16 g17 g18 g19 g20 g21 g22 g23 g24 g25 g26 g27 g28 g29 g30 g31 g32 g33 g34 g35 g36 g37 g38 g39 g40 g41 g42 g43 g44 g45 g46 g47 g48 g49 g50 g51 g52 g53 g54 g55 g56 : Value} {M : Mem} : finish Try.prog Try.f9 #[g0, g1, g2, g3, g4, g5, g6, g7, g8, g9, g10, g11, g12, g13, g14, g15, g16, g17, g18, g19, g20, g21, g22, g23, g24, g25, g26, g27, g28, g29, g30, g31, g32, g33, g34, g35, g36, g37, g38, g39, g40, g41, g42, g43, g44, g45, g46, g47, g48, g49, g50, g51, g52, g53, g54, g55, g56] M = some (.tuple #[g2, g3], M) := by kernel_rfl
theorem k9_13 : subC (codeOf Try.f9) [1, 0, 1, 0, 1, 1] = .skip := by kernel_rfl
theorem k9_14 : subC (codeOf Try.f9) [1, 0, 1, 1] = .seq (subC (codeOf Try.f9) [1, 0, 1, 1, 0]) (subC (codeOf Try.f9) [1, 0, 1, 1, 1]) := by kernel_rfl
theorem k9_15 : subC (codeOf Try.f9) [1, 0, 1, 1, 0] = .region 4 (opsOf (subC (codeOf Try.f9) [1, 0, 1, 1, 0])) false := by kernel_rfl
theorem r9_4 {x4 : Int} {g0 g1 g2 g3 g5 g6 g7 g8 g9 g10 g11 g12 g13 g14 g15 g16 g17 g18 g19 g20 g21 g22 g23 g24 g25 g26 g27 g28 g29 g30 g31 g32 g33 g34 g35 g36 g37 g38 g39 g40 g41 g42 g43 g44 g45 g46 g47 g48 g49 g50 g51 g52 g53 g54 g55 g56 : Value} {M : Mem} {call : CallM} {K : Array Value → Mem → R} :
    opsK Try.prog (fun _ => call) (opsOf (subC (codeOf Try.f9) [1, 0, 1, 1, 0])) (opsOf (subC (codeOf Try.f9) [1, 0, 1, 1, 0])).toList 0 #[g0, g1, g2, g3, .int .i64 x4, g5, g6, g7, g8, g9, g10, g11, g12, g13, g14, g15, g16, g17, g18, g19, g20, g21, g22, g23, g24, g25, g26, g27, g28, g29, g30, g31, g32, g33, g34, g35, g36, g37, g38, g39, g40, g41, g42, g43, g44, g45, g46, g47, g48, g49, g50, g51, g52, g53, g54, g55, g56] M K = (makeP Try.prog 22 (.int .i64 0) (.int .i64 (IntKind.i64.wrap (x4 * x4))) M).bind fun r_1 => (asS r_1.1).bind fun s_2 => K #[g0, g1, g2, g3, .int .i64 x4, .slice s_2.1 (s_2.2.1) (s_2.2.2), g6, g7, g8, g9, g10, g11, g12, .int .i64 x4, .int .i64 x4, .int .i64 (IntKind.i64.wrap (x4 * x4)), .slice s_2.1 (s_2.2.1) (s_2.2.2), g17, g18, g19, g20, g21, g22, g23, g24, g25, g26, g27, g28, g29, g30, g31, g32, g33, g34, g35, g36, g37, g38, g39, g40, g41, g42, g43, g44, g45, g46, g47, g48, g49, g50, g51, g52, g53, g54, g55, g56] r_1.2 := by kernel_rfl
theorem k9_16 : subC (codeOf Try.f9) [1, 0, 1, 1, 1] = .seq (subC (codeOf Try.f9) [1, 0, 1, 1, 1, 0]) (subC (codeOf Try.f9) [1, 0, 1, 1, 1, 1]) := by kernel_rfl
theorem k9_17 : subC (codeOf Try.f9) [1, 0, 1, 1, 1, 0] = .label 0 := by kernel_rfl
theorem k9_18 : subC (codeOf Try.f9) [1, 0, 1, 1, 1, 1] = .seq (subC (codeOf Try.f9) [1, 0, 1, 1, 1, 1, 0]) (subC (codeOf Try.f9) [1, 0, 1, 1, 1, 1, 1]) := by kernel_rfl
theorem k9_19 : subC (codeOf Try.f9) [1, 0, 1, 1, 1, 1, 0] = .seq (subC (codeOf Try.f9) [1, 0, 1, 1, 1, 1, 0, 0]) (subC (codeOf Try.f9) [1, 0, 1, 1, 1, 1, 0, 1]) := by kernel_rfl
theorem k9_20 : subC (codeOf Try.f9) [1, 0, 1, 1, 1, 1, 0, 0] = .region 5 (opsOf (subC (codeOf Try.f9) [1, 0, 1, 1, 1, 1, 0, 0])) false := by kernel_rfl
theorem r9_5 {g0 g1 g2 g3 g4 g5 g6 g7 g8 g9 g10 g11 g12 g13 g14 g15 g16 g17 g18 g19 g20 g21 g22 g23 g24 g25 g26 g27 g28 g29 g30 g31 g32 g33 g34 g35 g36 g37 g38 g39 g40 g41 g42 g43 g44 g45 g46 g47 g48 g49 g50 g51 g52 g53 g54 g55 g56 : Value} {M : Mem} {call : CallM} {K : Array Value → Mem → R} :
    opsK Try.prog (fun _ => call) (opsOf (subC (codeOf Try.f9) [1, 0, 1, 1, 1, 1, 0, 0])) (opsOf (subC (codeOf Try.f9) [1, 0, 1, 1, 1, 1, 0, 0])).toList 0 #[g0, g1, g2, g3, g4, g5, g6, g7, g8, g9, g10, g11, g12, g13, g14, g15, g16, g17, g18, g19, g20, g21, g22, g23, g24, g25, g26, g27, g28, g29, g30, g31, g32, g33, g34, g35, g36, g37, g38, g39, g40, g41, g42, g43, g44, g45, g46, g47, g48, g49, g50, g51, g52, g53, g54, g55, g56] M K = K #[g0, g1, g2, g3, g4, g5, .int .i64 0, g7, g8, g9, g10, g11, g12, g13, g14, g15, g16, g17, g18, g19, g20, g21, g22, g23, g24, g25, g26, g27, g28, g29, g30, g31, g32, g33, g34, g35, g36, g37, g38, g39, g40, g41, g42, g43, g44, g45, g46, g47, g48, g49, g50, g51, g52, g53, g54, g55, g56] M := by kernel_rfl
theorem k9_21 : subC (codeOf Try.f9) [1, 0, 1, 1, 1, 1, 0, 1] = .block 0 (subC (codeOf Try.f9) [1, 0, 1, 1, 1, 1, 0, 1, 0]) := by kernel_rfl
theorem k9_22 : subC (codeOf Try.f9) [1, 0, 1, 1, 1, 1, 0, 1, 0] = .loop (subC (codeOf Try.f9) [1, 0, 1, 1, 1, 1, 0, 1, 0, 0]) := by kernel_rfl
theorem k9_23 : subC (codeOf Try.f9) [1, 0, 1, 1, 1, 1, 0, 1, 0, 0] = .seq (subC (codeOf Try.f9) [1, 0, 1, 1, 1, 1, 0, 1, 0, 0, 0]) (subC (codeOf Try.f9) [1, 0, 1, 1, 1, 1, 0, 1, 0, 0, 1]) := by kernel_rfl
theorem k9_24 : subC (codeOf Try.f9) [1, 0, 1, 1, 1, 1, 0, 1, 0, 0, 0] = .block 1 (subC (codeOf Try.f9) [1, 0, 1, 1, 1, 1, 0, 1, 0, 0, 0, 0]) := by kernel_rfl
theorem k9_25 : subC (codeOf Try.f9) [1, 0, 1, 1, 1, 1, 0, 1, 0, 0, 0, 0] = .seq (subC (codeOf Try.f9) [1, 0, 1, 1, 1, 1, 0, 1, 0, 0, 0, 0, 0]) (subC (codeOf Try.f9) [1, 0, 1, 1, 1, 1, 0, 1, 0, 0, 0, 0, 1]) := by kernel_rfl
theorem k9_26 : subC (codeOf Try.f9) [1, 0, 1, 1, 1, 1, 0, 1, 0, 0, 0, 0, 0] = .region 7 (opsOf (subC (codeOf Try.f9) [1, 0, 1, 1, 1, 1, 0, 1, 0, 0, 0, 0, 0])) false := by kernel_rfl
theorem r9_7 {x4 : Int} {x6 : Int} {g0 g1 g2 g3 g5 g7 g8 g9 g10 g11 g12 g13 g14 g15 g16 g17 g18 g19 g20 g21 g22 g23 g24 g25 g26 g27 g28 g29 g30 g31 g32 g33 g34 g35 g36 g37 g38 g39 g40 g41 g42 g43 g44 g45 g46 g47 g48 g49 g50 g51 g52 g53 g54 g55 g56 : Value} {M : Mem} {call : CallM} {K : Array Value → Mem → R} :
    opsK Try.prog (fun _ => call) (opsOf (subC (codeOf Try.f9) [1, 0, 1, 1, 1, 1, 0, 1, 0, 0, 0, 0, 0])) (opsOf (subC (codeOf Try.f9) [1, 0, 1, 1, 1, 1, 0, 1, 0, 0, 0, 0, 0])).toList 0 #[g0, g1, g2, g3, .int .i64 x4, g5, .int .i64 x6, g7, g8, g9, g10, g11, g12, g13, g14, g15, g16, g17, g18, g19, g20, g21, g22, g23, g24, g25, g26, g27, g28, g29, g30, g31, g32, g33, g34, g35, g36, g37, g38, g39, g40, g41, g42, g43, g44, g45, g46, g47, g48, g49, g50, g51, g52, g53, g54, g55, g56] M K = K #[g0, g1, g2, g3, .int .i64 x4, g5, .int .i64 x6, .int .i64 (if IntKind.i64.wrap ((IntKind.i64.wrap (x6 - x4)) + 1) > 0 then IntKind.i64.wrap ((IntKind.i64.wrap (x6 - x4)) + 1) else 0), g8, g9, g10, g11, g12, g13, g14, g15, g16, g17, g18, .int .i64 x6, .int .i64 x4, .int .i64 (IntKind.i64.wrap (x6 - x4)), .int .i64 (IntKind.i64.wrap ((IntKind.i64.wrap (x6 - x4)) + 1)), .int .i64 (if IntKind.i64.wrap ((IntKind.i64.wrap (x6 - x4)) + 1) > 0 then IntKind.i64.wrap ((IntKind.i64.wrap (x6 - x4)) + 1) else 0), g24, g25, g26, g27, g28, g29, g30, g31, g32, g33, g34, g35, g36, g37, g38, g39, g40, g41, g42, g43, g44, g45, g46, g47, g48, g49, g50, g51, g52, g53, g54, g55, g56] M := by kernel_rfl
theorem k9_27 : subC (codeOf Try.f9) [1, 0, 1, 1, 1, 1, 0, 1, 0, 0, 0, 0, 1] = .block 2 (subC (codeOf Try.f9) [1, 0, 1, 1, 1, 1, 0, 1, 0, 0, 0, 0, 1, 0]) := by kernel_rfl
theorem k9_28 : subC (codeOf Try.f9) [1, 0, 1, 1, 1, 1, 0, 1, 0, 0, 0, 0, 1, 0] = .loop (subC (codeOf Try.f9) [1, 0, 1, 1, 1, 1, 0, 1, 0, 0, 0, 0, 1, 0, 0]) := by kernel_rfl
theorem k9_29 : subC (codeOf Try.f9) [1, 0, 1, 1, 1, 1, 0, 1, 0, 0, 0, 0, 1, 0, 0] = .seq (subC (codeOf Try.f9) [1, 0, 1, 1, 1, 1, 0, 1, 0, 0, 0, 0, 1, 0, 0, 0]) (subC (codeOf Try.f9) [1, 0, 1, 1, 1, 1, 0, 1, 0, 0, 0, 0, 1, 0, 0, 1]) := by kernel_rfl
theorem k9_30 : subC (codeOf Try.f9) [1, 0, 1, 1, 1, 1, 0, 1, 0, 0, 0, 0, 1, 0, 0, 0] = .block 3 (subC (codeOf Try.f9) [1, 0, 1, 1, 1, 1, 0, 1, 0, 0, 0, 0, 1, 0, 0, 0, 0]) := by kernel_rfl
theorem k9_31 : subC (codeOf Try.f9) [1, 0, 1, 1, 1, 1, 0, 1, 0, 0, 0, 0, 1, 0, 0, 0, 0] = .seq (subC (codeOf Try.f9) [1, 0, 1, 1, 1, 1, 0, 1, 0, 0, 0, 0, 1, 0, 0, 0, 0, 0]) (subC (codeOf Try.f9) [1, 0, 1, 1, 1, 1, 0, 1, 0, 0, 0, 0, 1, 0, 0, 0, 0, 1]) := by kernel_rfl
theorem k9_32 : subC (codeOf Try.f9) [1, 0, 1, 1, 1, 1, 0, 1, 0, 0, 0, 0, 1, 0, 0, 0, 0, 0] = .region 9 (opsOf (subC (codeOf Try.f9) [1, 0, 1, 1, 1, 1, 0, 1, 0, 0, 0, 0, 1, 0, 0, 0, 0, 0])) false := by kernel_rfl
theorem r9_9 {x6 : Int} {x7 : Int} {g0 g1 g2 g3 g4 g5 g8 g9 g10 g11 g12 g13 g14 g15 g16 g17 g18 g19 g20 g21 g22 g23 g24 g25 g26 g27 g28 g29 g30 g31 g32 g33 g34 g35 g36 g37 g38 g39 g40 g41 g42 g43 g44 g45 g46 g47 g48 g49 g50 g51 g52 g53 g54 g55 g56 : Value} {M : Mem} {call : CallM} {K : Array Value → Mem → R} :
    opsK Try.prog (fun _ => call) (opsOf (subC (codeOf Try.f9) [1, 0, 1, 1, 1, 1, 0, 1, 0, 0, 0, 0, 1, 0, 0, 0, 0, 0])) (opsOf (subC (codeOf Try.f9) [1, 0, 1, 1, 1, 1, 0, 1, 0, 0, 0, 0, 1, 0, 0, 0, 0, 0])).toList 0 #[g0, g1, g2, g3, g4, g5, .int .i64 x6, .int .i64 x7, g8, g9, g10, g11, g12, g13, g14, g15, g16, g17, g18, g19, g20, g21, g22, g23, g24, g25, g26, g27, g28, g29, g30, g31, g32, g33, g34, g35, g36, g37, g38, g39, g40, g41, g42, g43, g44, g45, g46, g47, g48, g49, g50, g51, g52, g53, g54, g55, g56] M K = K #[g0, g1, g2, g3, g4, g5, .int .i64 x6, .int .i64 x7, .int .i64 (IntKind.i64.wrap (x6 - x7)), g9, g10, g11, g12, g13, g14, g15, g16, g17, g18, g19, g20, g21, g22, g23, g24, g25, .int .i64 x6, .int .i64 x7, .int .i64 (IntKind.i64.wrap (x6 - x7)), g29, g30, g31, g32, g33, g34, g35, g36, g37, g38, g39, g40, g41, g42, g43, g44, g45, g46, g47, g48, g49, g50, g51, g52, g53, g54, g55, g56] M := by kernel_rfl
theorem k9_33 : subC (codeOf Try.f9) [1, 0, 1, 1, 1, 1, 0, 1, 0, 0, 0, 0, 1, 0, 0, 0, 0, 1] = .seq (subC (codeOf Try.f9) [1, 0, 1, 1, 1, 1, 0, 1, 0, 0, 0, 0, 1, 0, 0, 0, 0, 1, 0]) (subC (codeOf Try.f9) [1, 0, 1, 1, 1, 1, 0, 1, 0, 0, 0, 0, 1, 0, 0, 0, 0, 1, 1]) := by kernel_rfl
theorem k9_34 : subC (codeOf Try.f9) [1, 0, 1, 1, 1, 1, 0, 1, 0, 0, 0, 0, 1, 0, 0, 0, 0, 1, 0] = .block 4 (subC (codeOf Try.f9) [1, 0, 1, 1, 1, 1, 0, 1, 0, 0, 0, 0, 1, 0, 0, 0, 0, 1, 0, 0]) := by kernel_rfl
theorem k9_35 : subC (codeOf Try.f9) [1, 0, 1, 1, 1, 1, 0, 1, 0, 0, 0, 0, 1, 0, 0, 0, 0, 1, 0, 0] = .seq (subC (codeOf Try.f9) [1, 0, 1, 1, 1, 1, 0, 1, 0, 0, 0, 0, 1, 0, 0, 0, 0, 1, 0, 0, 0]) (subC (codeOf Try.f9) [1, 0, 1, 1, 1, 1, 0, 1, 0, 0, 0, 0, 1, 0, 0, 0, 0, 1, 0, 0, 1]) := by kernel_rfl
theorem k9_36 : subC (codeOf Try.f9) [1, 0, 1, 1, 1, 1, 0, 1, 0, 0, 0, 0, 1, 0, 0, 0, 0, 1, 0, 0, 0] = .region 10 (opsOf (subC (codeOf Try.f9) [1, 0, 1, 1, 1, 1, 0, 1, 0, 0, 0, 0, 1, 0, 0, 0, 0, 1, 0, 0, 0])) false := by kernel_rfl
theorem r9_10 {x4 : Int} {x6 : Int} {x7 : Int} {g0 g1 g2 g3 g5 g8 g9 g10 g11 g12 g13 g14 g15 g16 g17 g18 g19 g20 g21 g22 g23 g24 g25 g26 g27 g28 g29 g30 g31 g32 g33 g34 g35 g36 g37 g38 g39 g40 g41 g42 g43 g44 g45 g46 g47 g48 g49 g50 g51 g52 g53 g54 g55 g56 : Value} {M : Mem} {call : CallM} {K : Array Value → Mem → R} :
    opsK Try.prog (fun _ => call) (opsOf (subC (codeOf Try.f9) [1, 0, 1, 1, 1, 1, 0, 1, 0, 0, 0, 0, 1, 0, 0, 0, 0, 1, 0, 0, 0])) (opsOf (subC (codeOf Try.f9) [1, 0, 1, 1, 1, 1, 0, 1, 0, 0, 0, 0, 1, 0, 0, 0, 0, 1, 0, 0, 0])).toList 0 #[g0, g1, g2, g3, .int .i64 x4, g5, .int .i64 x6, .int .i64 x7, g8, g9, g10, g11, g12, g13, g14, g15, g16, g17, g18, g19, g20, g21, g22, g23, g24, g25, g26, g27, g28, g29, g30, g31, g32, g33, g34, g35, g36, g37, g38, g39, g40, g41, g42, g43, g44, g45, g46, g47, g48, g49, g50, g51, g52, g53, g54, g55, g56] M K = cond (x7 == x4) (K #[g0, g1, g2, g3, .int .i64 x4, g5, .int .i64 x6, .int .i64 x7, g8, g9, g10, g11, g12, g13, g14, g15, g16, g17, g18, g19, g20, g21, g22, g23, g24, g25, g26, g27, g28, .bool (x6 == (IntKind.i64.wrap ((IntKind.i64.wrap (2 * x4)) - 1))), .int .i64 x7, .int .i64 x4, .bool (x7 == x4), .bool true, .int .i64 x6, .int .i64 x4, .int .i64 (IntKind.i64.wrap (2 * x4)), .int .i64 (IntKind.i64.wrap ((IntKind.i64.wrap (2 * x4)) - 1)), .bool (x6 == (IntKind.i64.wrap ((IntKind.i64.wrap (2 * x4)) - 1))), .bool (x6 == (IntKind.i64.wrap ((IntKind.i64.wrap (2 * x4)) - 1))), g40, g41, g42, g43, g44, g45, g46, g47, g48, g49, g50, g51, g52, g53, g54, g55, g56] M) (K #[g0, g1, g2, g3, .int .i64 x4, g5, .int .i64 x6, .int .i64 x7, g8, g9, g10, g11, g12, g13, g14, g15, g16, g17, g18, g19, g20, g21, g22, g23, g24, g25, g26, g27, g28, .bool false, .int .i64 x7, .int .i64 x4, .bool (x7 == x4), .bool false, undef, undef, undef, undef, undef, .bool false, g40, g41, g42, g43, g44, g45, g46, g47, g48, g49, g50, g51, g52, g53, g54, g55, g56] M) := by kernel_rfl
theorem c9_37 {x29 : Bool} {g0 g1 g2 g3 g4 g5 g6 g7 g8 g9 g10 g11 g12 g13 g14 g15 g16 g17 g18 g19 g20 g21 g22 g23 g24 g25 g26 g27 g28 g30 g31 g32 g33 g34 g35 g36 g37 g38 g39 g40 g41 g42 g43 g44 g45 g46 g47 g48 g49 g50 g51 g52 g53 g54 g55 g56 : Value} : subC (codeOf Try.f9) [1, 0, 1, 1, 1, 1, 0, 1, 0, 0, 0, 0, 1, 0, 0, 0, 0, 1, 0, 0, 1] = .cond (.tmp 29) (subC (codeOf Try.f9) [1, 0, 1, 1, 1, 1, 0, 1, 0, 0, 0, 0, 1, 0, 0, 0, 0, 1, 0, 0, 1, 0]) (subC (codeOf Try.f9) [1, 0, 1, 1, 1, 1, 0, 1, 0, 0, 0, 0, 1, 0, 0, 0, 0, 1, 0, 0, 1, 1]) ∧ okOperand (.tmp 29) = true ∧ evalT #[g0, g1, g2, g3, g4, g5, g6, g7, g8, g9, g10, g11, g12, g13, g14, g15, g16, g17, g18, g19, g20, g21, g22, g23, g24, g25, g26, g27, g28, .bool x29, g30, g31, g32, g33, g34, g35, g36, g37, g38, g39, g40, g41, g42, g43, g44, g45, g46, g47, g48, g49, g50, g51, g52, g53, g54, g55, g56] (.tmp 29) = .bool x29 := ⟨by kernel_rfl, by kernel_rfl, by kernel_rfl⟩
theorem k9_38 : subC (codeOf Try.f9) [1, 0, 1, 1, 1, 1, 0, 1, 0, 0, 0, 0, 1, 0, 0, 0, 0, 1, 0, 0, 1, 0] = .exit 0 := by kernel_rfl
theorem k9_39 : subC (codeOf Try.f9) [1, 0, 1, 1, 1, 1, 1] = .seq (subC (codeOf Try.f9) [1, 0, 1, 1, 1, 1, 1, 0]) (subC (codeOf Try.f9) [1, 0, 1, 1, 1, 1, 1, 1]) := by kernel_rfl
theorem k9_40 : subC (codeOf Try.f9) [1, 0, 1, 1, 1, 1, 1, 0] = .region 13 (opsOf (subC (codeOf Try.f9) [1, 0, 1, 1, 1, 1, 1, 0])) false := by kernel_rfl
theorem r9_13 {Ax5 : Option Addr} {lx5 : Nat} {cx5 : Nat} {g0 g1 g2 g3 g4 g6 g7 g8 g9 g10 g11 g12 g13 g14 g15 g16 g17 g18 g19 g20 g21 g22 g23 g24 g25 g26 g27 g28 g29 g30 g31 g32 g33 g34 g35 g36 g37 g38 g39 g40 g41 g42 g43 g44 g45 g46 g47 g48 g49 g50 g51 g52 g53 g54 g55 g56 : Value} {M : Mem} {call : CallM} {K : Array Value → Mem → R} :
    opsK Try.prog (fun _ => call) (opsOf (subC (codeOf Try.f9) [1, 0, 1, 1, 1, 1, 1, 0])) (opsOf (subC (codeOf Try.f9) [1, 0, 1, 1, 1, 1, 1, 0])).toList 0 #[g0, g1, g2, g3, g4, .slice Ax5 lx5 cx5, g6, g7, g8, g9, g10, g11, g12, g13, g14, g15, g16, g17, g18, g19, g20, g21, g22, g23, g24, g25, g26, g27, g28, g29, g30, g31, g32, g33, g34, g35, g36, g37, g38, g39, g40, g41, g42, g43, g44, g45, g46, g47, g48, g49, g50, g51, g52, g53, g54, g55, g56] M K = K #[g0, g1, .slice Ax5 lx5 cx5, .int .i64 0, g4, .slice Ax5 lx5 cx5, g6, g7, g8, g9, g10, g11, g12, g13, g14, g15, g16, g17, g18, g19, g20, g21, g22, g23, g24, g25, g26, g27, g28, g29, g30, g31, g32, g33, g34, g35, g36, g37, g38, g39, g40, g41, g42, g43, g44, g45, g46, g47, g48, g49, g50, g51, g52, g53, g54, g55, .slice Ax5 lx5 cx5] M := by kernel_rfl
theorem k9_41 : subC (codeOf Try.f9) [1, 0, 1, 1, 1, 1, 1, 1] = .ret := by kernel_rfl
theorem k9_42 : subC (codeOf Try.f9) [1, 0, 1, 1, 1, 1, 0, 1, 0, 0, 0, 0, 1, 0, 0, 0, 0, 1, 0, 0, 1, 1] = .seq (subC (codeOf Try.f9) [1, 0, 1, 1, 1, 1, 0, 1, 0, 0, 0, 0, 1, 0, 0, 0, 0, 1, 0, 0, 1, 1, 0]) (subC (codeOf Try.f9) [1, 0, 1, 1, 1, 1, 0, 1, 0, 0, 0, 0, 1, 0, 0, 0, 0, 1, 0, 0, 1, 1, 1]) := by kernel_rfl
theorem k9_43 : subC (codeOf Try.f9) [1, 0, 1, 1, 1, 1, 0, 1, 0, 0, 0, 0, 1, 0, 0, 0, 0, 1, 0, 0, 1, 1, 0] = .region 11 (opsOf (subC (codeOf Try.f9) [1, 0, 1, 1, 1, 1, 0, 1, 0, 0, 0, 0, 1, 0, 0, 0, 0, 1, 0, 0, 1, 1, 0])) false := by kernel_rfl
theorem r9_11 {x4 : Int} {x7 : Int} {x8 : Int} {g0 g1 g2 g3 g5 g6 g9 g10 g11 g12 g13 g14 g15 g16 g17 g18 g19 g20 g21 g22 g23 g24 g25 g26 g27 g28 g29 g30 g31 g32 g33 g34 g35 g36 g37 g38 g39 g40 g41 g42 g43 g44 g45 g46 g47 g48 g49 g50 g51 g52 g53 g54 g55 g56 : Value} {M : Mem} {call : CallM} {K : Array Value → Mem → R} :
    opsK Try.prog (fun _ => call) (opsOf (subC (codeOf Try.f9) [1, 0, 1, 1, 1, 1, 0, 1, 0, 0, 0, 0, 1, 0, 0, 0, 0, 1, 0, 0, 1, 1, 0])) (opsOf (subC (codeOf Try.f9) [1, 0, 1, 1, 1, 1, 0, 1, 0, 0, 0, 0, 1, 0, 0, 0, 0, 1, 0, 0, 1, 1, 0])).toList 0 #[g0, g1, g2, g3, .int .i64 x4, g5, g6, .int .i64 x7, .int .i64 x8, g9, g10, g11, g12, g13, g14, g15, g16, g17, g18, g19, g20, g21, g22, g23, g24, g25, g26, g27, g28, g29, g30, g31, g32, g33, g34, g35, g36, g37, g38, g39, g40, g41, g42, g43, g44, g45, g46, g47, g48, g49, g50, g51, g52, g53, g54, g55, g56] M K = cond (x7 == x4) (K #[g0, g1, g2, g3, .int .i64 x4, g5, g6, .int .i64 x7, .int .i64 x8, g9, g10, g11, g12, g13, g14, g15, g16, g17, g18, g19, g20, g21, g22, g23, g24, g25, g26, g27, g28, g29, g30, g31, g32, g33, g34, g35, g36, g37, g38, g39, .bool true, .int .i64 x7, .int .i64 x4, .bool (x7 == x4), .bool true, undef, undef, .bool true, g48, g49, g50, g51, g52, g53, g54, g55, g56] M) (K #[g0, g1, g2, g3, .int .i64 x4, g5, g6, .int .i64 x7, .int .i64 x8, g9, g10, g11, g12, g13, g14, g15, g16, g17, g18, g19, g20, g21, g22, g23, g24, g25, g26, g27, g28, g29, g30, g31, g32, g33, g34, g35, g36, g37, g38, g39, .bool (decide (x8 < 0)), .int .i64 x7, .int .i64 x4, .bool (x7 == x4), .bool false, .int .i64 x8, .bool (decide (x8 < 0)), .bool (decide (x8 < 0)), g48, g49, g50, g51, g52, g53, g54, g55, g56] M) := by kernel_rfl
theorem c9_44 {x40 : Bool} {g0 g1 g2 g3 g4 g5 g6 g7 g8 g9 g10 g11 g12 g13 g14 g15 g16 g17 g18 g19 g20 g21 g22 g23 g24 g25 g26 g27 g28 g29 g30 g31 g32 g33 g34 g35 g36 g37 g38 g39 g41 g42 g43 g44 g45 g46 g47 g48 g49 g50 g51 g52 g53 g54 g55 g56 : Value} : subC (codeOf Try.f9) [1, 0, 1, 1, 1, 1, 0, 1, 0, 0, 0, 0, 1, 0, 0, 0, 0, 1, 0, 0, 1, 1, 1] = .cond (.tmp 40) (subC (codeOf Try.f9) [1, 0, 1, 1, 1, 1, 0, 1, 0, 0, 0, 0, 1, 0, 0, 0, 0, 1, 0, 0, 1, 1, 1, 0]) (subC (codeOf Try.f9) [1, 0, 1, 1, 1, 1, 0, 1, 0, 0, 0, 0, 1, 0, 0, 0, 0, 1, 0, 0, 1, 1, 1, 1]) ∧ okOperand (.tmp 40) = true ∧ evalT #[g0, g1, g2, g3, g4, g5, g6, g7, g8, g9, g10, g11, g12, g13, g14, g15, g16, g17, g18, g19, g20, g21, g22, g23, g24, g25, g26, g27, g28, g29, g30, g31, g32, g33, g34, g35, g36, g37, g38, g39, .bool x40, g41, g42, g43, g44, g45, g46, g47, g48, g49, g50, g51, g52, g53, g54, g55, g56] (.tmp 40) = .bool x40 := ⟨by kernel_rfl, by kernel_rfl, by kernel_rfl⟩
theorem k9_45 : subC (codeOf Try.f9) [1, 0, 1, 1, 1, 1, 0, 1, 0, 0, 0, 0, 1, 0, 0, 0, 0, 1, 0, 0, 1, 1, 1, 0] = .exit 1 := by kernel_rfl
theorem k9_46 : subC (codeOf Try.f9) [1, 0, 1, 1, 1, 1, 0, 1, 0, 0, 1] = .region 6 (opsOf (subC (codeOf Try.f9) [1, 0, 1, 1, 1, 1, 0, 1, 0, 0, 1])) false := by kernel_rfl
theorem r9_6 {x6 : Int} {g0 g1 g2 g3 g4 g5 g7 g8 g9 g10 g11 g12 g13 g14 g15 g16 g17 g18 g19 g20 g21 g22 g23 g24 g25 g26 g27 g28 g29 g30 g31 g32 g33 g34 g35 g36 g37 g38 g39 g40 g41 g42 g43 g44 g45 g46 g47 g48 g49 g50 g51 g52 g53 g54 g55 g56 : Value} {M : Mem} {call : CallM} {K : Array Value → Mem → R} :
    opsK Try.prog (fun _ => call) (opsOf (subC (codeOf Try.f9) [1, 0, 1, 1, 1, 1, 0, 1, 0, 0, 1])) (opsOf (subC (codeOf Try.f9) [1, 0, 1, 1, 1, 1, 0, 1, 0, 0, 1])).toList 0 #[g0, g1, g2, g3, g4, g5, .int .i64 x6, g7, g8, g9, g10, g11, g12, g13, g14, g15, g16, g17, g18, g19, g20, g21, g22, g23, g24, g25, g26, g27, g28, g29, g30, g31, g32, g33, g34, g35, g36, g37, g38, g39, g40, g41, g42, g43, g44, g45, g46, g47, g48, g49, g50, g51, g52, g53, g54, g55, g56] M K = K #[g0, g1, g2, g3, g4, g5, .int .i64 (IntKind.i64.wrap (x6 + 1)), g7, g8, g9, g10, g11, g12, g13, g14, g15, g16, .int .i64 x6, .int .i64 (IntKind.i64.wrap (x6 + 1)), g19, g20, g21, g22, g23, g24, g25, g26, g27, g28, g29, g30, g31, g32, g33, g34, g35, g36, g37, g38, g39, g40, g41, g42, g43, g44, g45, g46, g47, g48, g49, g50, g51, g52, g53, g54, g55, g56] M := by kernel_rfl
theorem k9_47 : subC (codeOf Try.f9) [1, 0, 1, 1, 1, 1, 0, 1, 0, 0, 0, 0, 1, 0, 0, 0, 0, 1, 0, 0, 1, 1, 1, 1] = .skip := by kernel_rfl
theorem k9_48 : subC (codeOf Try.f9) [1, 0, 1, 1, 1, 1, 0, 1, 0, 0, 0, 0, 1, 0, 0, 0, 0, 1, 1] = .region 12 (opsOf (subC (codeOf Try.f9) [1, 0, 1, 1, 1, 1, 0, 1, 0, 0, 0, 0, 1, 0, 0, 0, 0, 1, 1])) false := by kernel_rfl
theorem r9_12 {x4 : Int} {Ax5 : Option Addr} {lx5 : Nat} {cx5 : Nat} {x7 : Int} {x8 : Int} {g0 g1 g2 g3 g6 g9 g10 g11 g12 g13 g14 g15 g16 g17 g18 g19 g20 g21 g22 g23 g24 g25 g26 g27 g28 g29 g30 g31 g32 g33 g34 g35 g36 g37 g38 g39 g40 g41 g42 g43 g44 g45 g46 g47 g48 g49 g50 g51 g52 g53 g54 g55 g56 : Value} {M : Mem} {call : CallM} {K : Array Value → Mem → R} :
    opsK Try.prog (fun _ => call) (opsOf (subC (codeOf Try.f9) [1, 0, 1, 1, 1, 1, 0, 1, 0, 0, 0, 0, 1, 0, 0, 0, 0, 1, 1])) (opsOf (subC (codeOf Try.f9) [1, 0, 1, 1, 1, 1, 0, 1, 0, 0, 0, 0, 1, 0, 0, 0, 0, 1, 1])).toList 0 #[g0, g1, g2, g3, .int .i64 x4, .slice Ax5 lx5 cx5, g6, .int .i64 x7, .int .i64 x8, g9, g10, g11, g12, g13, g14, g15, g16, g17, g18, g19, g20, g21, g22, g23, g24, g25, g26, g27, g28, g29, g30, g31, g32, g33, g34, g35, g36, g37, g38, g39, g40, g41, g42, g43, g44, g45, g46, g47, g48, g49, g50, g51, g52, g53, g54, g55, g56] M K = (appendP Try.prog #[22, 22] (.slice Ax5 lx5 cx5) (.slice (some ⟨2 * M.nb.size, 0, none⟩) 1 1) (M.new (.cells #[.int .i64 (IntKind.i64.wrap ((IntKind.i64.wrap (x7 * x4)) + x8))] 3))).bind fun r_1 => (asS r_1.1).bind fun s_2 => K #[g0, g1, g2, g3, .int .i64 x4, .slice s_2.1 (s_2.2.1) (s_2.2.2), g6, .int .i64 x7, .int .i64 x8, g9, g10, g11, g12, g13, g14, g15, g16, g17, g18, g19, g20, g21, g22, g23, g24, g25, g26, g27, g28, g29, g30, g31, g32, g33, g34, g35, g36, g37, g38, g39, g40, g41, g42, g43, g44, g45, g46, g47, .slice Ax5 lx5 cx5, .int .i64 x7, .int .i64 x4, .int .i64 (IntKind.i64.wrap (x7 * x4)), .int .i64 x8, .int .i64 (IntKind.i64.wrap ((IntKind.i64.wrap (x7 * x4)) + x8)), .slice (some ⟨2 * M.nb.size, 0, none⟩) 1 1, .slice s_2.1 (s_2.2.1) (s_2.2.2), g56] r_1.2 := by kernel_rfl
theorem k9_49 : subC (codeOf Try.f9) [1, 0, 1, 1, 1, 1, 0, 1, 0, 0, 0, 0, 1, 0, 0, 1] = .region 8 (opsOf (subC (codeOf Try.f9) [1, 0, 1, 1, 1, 1, 0, 1, 0, 0, 0, 0, 1, 0, 0, 1])) false := by kernel_rfl
theorem r9_8 {x7 : Int} {g0 g1 g2 g3 g4 g5 g6 g8 g9 g10 g11 g12 g13 g14 g15 g16 g17 g18 g19 g20 g21 g22 g23 g24 g25 g26 g27 g28 g29 g30 g31 g32 g33 g34 g35 g36 g37 g38 g39 g40 g41 g42 g43 g44 g45 g46 g47 g48 g49 g50 g51 g52 g53 g54 g55 g56 : Value} {M : Mem} {call : CallM} {K : Array Value → Mem → R} :
    opsK Try.prog (fun _ => call) (opsOf (subC (codeOf Try.f9) [1, 0, 1, 1, 1, 1, 0, 1, 0, 0, 0, 0, 1, 0, 0, 1])) (opsOf (subC (codeOf Try.f9) [1, 0, 1, 1, 1, 1, 0, 1, 0, 0, 0, 0, 1, 0, 0, 1])).toList 0 #[g0, g1, g2, g3, g4, g5, g6, .int .i64 x7, g8, g9, g10, g11, g12, g13, g14, g15, g16, g17, g18, g19, g20, g21, g22, g23, g24, g25, g26, g27, g28, g29, g30, g31, g32, g33, g34, g35, g36, g37, g38, g39, g40, g41, g42, g43, g44, g45, g46, g47, g48, g49, g50, g51, g52, g53, g54, g55, g56] M K = K #[g0, g1, g2, g3, g4, g5, g6, .int .i64 (IntKind.i64.wrap (x7 + 1)), g8, g9, g10, g11, g12, g13, g14, g15, g16, g17, g18, g19, g20, g21, g22, g23, .int .i64 x7, .int .i64 (IntKind.i64.wrap (x7 + 1)), g26, g27, g28, g29, g30, g31, g32, g33, g34, g35, g36, g37, g38, g39, g40, g41, g42, g43, g44, g45, g46, g47, g48, g49, g50, g51, g52, g53, g54, g55, g56] M := by kernel_rfl
noncomputable def S9_1 : List Item := [.code (subC (codeOf Try.f9) [1, 0, 1, 1, 1, 1, 0, 1, 0, 0]), .inLoop (subC (codeOf Try.f9) [1, 0, 1, 1, 1, 1, 0, 1, 0, 0]), .inBlock 0, .code (subC (codeOf Try.f9) [1, 0, 1, 1, 1, 1, 1]), .inScope (subC (codeOf Try.f9) [1, 0])]
def A9_1 (x4 : Int) (Ax5 : Option Addr) (lx5 : Nat) (cx5 : Nat) (x6 : Int) (M : Mem) (Q : Value → Mem → Prop) : Prop := ∀ (g0 g1 g2 g3 g7 g8 g9 g10 g11 g12 g13 g14 g15 g16 g17 g18 g19 g20 g21 g22 g23 g24 g25 g26 g27 g28 g29 g30 g31 g32 g33 g34 g35 g36 g37 g38 g39 g40 g41 g42 g43 g44 g45 g46 g47 g48 g49 g50 g51 g52 g53 g54 g55 g56 : Value), Rn Try.prog Try.f9 S9_1 #[g0, g1, g2, g3, .int .i64 x4, .slice Ax5 lx5 cx5, .int .i64 x6, g7, g8, g9, g10, g11, g12, g13, g14, g15, g16, g17, g18, g19, g20, g21, g22, g23, g24, g25, g26, g27, g28, g29, g30, g31, g32, g33, g34, g35, g36, g37, g38, g39, g40, g41, g42, g43, g44, g45, g46, g47, g48, g49, g50, g51, g52, g53, g54, g55, g56] M Q
noncomputable def S9_2 : List Item := [.code (subC (codeOf Try.f9) [1, 0, 1, 1, 1, 1, 0, 1, 0, 0, 0, 0, 1, 0, 0]), .inLoop (subC (codeOf Try.f9) [1, 0, 1, 1, 1, 1, 0, 1, 0, 0, 0, 0, 1, 0, 0]), .inBlock 2, .inBlock 1, .code (subC (codeOf Try.f9) [1, 0, 1, 1, 1, 1, 0, 1, 0, 0, 1]), .inLoop (subC (codeOf Try.f9) [1, 0, 1, 1, 1, 1, 0, 1, 0, 0]), .inBlock 0, .code (subC (codeOf Try.f9) [1, 0, 1, 1, 1, 1, 1]), .inScope (subC (codeOf Try.f9) [1, 0])]
def A9_2 (x4 : Int) (Ax5 : Option Addr) (lx5 : Nat) (cx5 : Nat) (x6 : Int) (x7 : Int) (M : Mem) (Q : Value → Mem → Prop) : Prop := ∀ (g0 g1 g2 g3 g8 g9 g10 g11 g12 g13 g14 g15 g16 g17 g18 g19 g20 g21 g22 g23 g24 g25 g26 g27 g28 g29 g30 g31 g32 g33 g34 g35 g36 g37 g38 g39 g40 g41 g42 g43 g44 g45 g46 g47 g48 g49 g50 g51 g52 g53 g54 g55 g56 : Value), Rn Try.prog Try.f9 S9_2 #[g0, g1, g2, g3, .int .i64 x4, .slice Ax5 lx5 cx5, .int .i64 x6, .int .i64 x7, g8, g9, g10, g11, g12, g13, g14, g15, g16, g17, g18, g19, g20, g21, g22, g23, g24, g25, g26, g27, g28, g29, g30, g31, g32, g33, g34, g35, g36, g37, g38, g39, g40, g41, g42, g43, g44, g45, g46, g47, g48, g49, g50, g51, g52, g53, g54, g55, g56] M Q
noncomputable def S9_3 : List Item := [.code (subC (codeOf Try.f9) [1, 0, 1, 1, 1, 1, 0, 1, 0, 0, 0, 0, 1, 0, 0, 0, 0, 1, 0, 0, 1]), .inBlock 4, .code (subC (codeOf Try.f9) [1, 0, 1, 1, 1, 1, 0, 1, 0, 0, 0, 0, 1, 0, 0, 0, 0, 1, 1]), .inBlock 3, .code (subC (codeOf Try.f9) [1, 0, 1, 1, 1, 1, 0, 1, 0, 0, 0, 0, 1, 0, 0, 1]), .inLoop (subC (codeOf Try.f9) [1, 0, 1, 1, 1, 1, 0, 1, 0, 0, 0, 0, 1, 0, 0]), .inBlock 2, .inBlock 1, .code (subC (codeOf Try.f9) [1, 0, 1, 1, 1, 1, 0, 1, 0, 0, 1]), .inLoop (subC (codeOf Try.f9) [1, 0, 1, 1, 1, 1, 0, 1, 0, 0]), .inBlock 0, .code (subC (codeOf Try.f9) [1, 0, 1, 1, 1, 1, 1]), .inScope (subC (codeOf Try.f9) [1, 0])]
def A9_3 (x4 : Int) (Ax5 : Option Addr) (lx5 : Nat) (cx5 : Nat) (x6 : Int) (x7 : Int) (x8 : Int) (x29 : Bool) (M : Mem) (Q : Value → Mem → Prop) : Prop := ∀ (g0 g1 g2 g3 g9 g10 g11 g12 g13 g14 g15 g16 g17 g18 g19 g20 g21 g22 g23 g24 g25 g26 g27 g28 g30 g31 g32 g33 g34 g35 g36 g37 g38 g39 g40 g41 g42 g43 g44 g45 g46 g47 g48 g49 g50 g51 g52 g53 g54 g55 g56 : Value), Rn Try.prog Try.f9 S9_3 #[g0, g1, g2, g3, .int .i64 x4, .slice Ax5 lx5 cx5, .int .i64 x6, .int .i64 x7, .int .i64 x8, g9, g10, g11, g12, g13, g14, g15, g16, g17, g18, g19, g20, g21, g22, g23, g24, g25, g26, g27, g28, .bool x29, g30, g31, g32, g33, g34, g35, g36, g37, g38, g39, g40, g41, g42, g43, g44, g45, g46, g47, g48, g49, g50, g51, g52, g53, g54, g55, g56] M Q
noncomputable def S9_4 : List Item := [.code (subC (codeOf Try.f9) [1, 0, 1, 1, 1, 1, 0, 1, 0, 0, 0, 0, 1, 0, 0, 0, 0, 1, 0, 0, 1, 1, 1]), .inBlock 4, .code (subC (codeOf Try.f9) [1, 0, 1, 1, 1, 1, 0, 1, 0, 0, 0, 0, 1, 0, 0, 0, 0, 1, 1]), .inBlock 3, .code (subC (codeOf Try.f9) [1, 0, 1, 1, 1, 1, 0, 1, 0, 0, 0, 0, 1, 0, 0, 1]), .inLoop (subC (codeOf Try.f9) [1, 0, 1, 1, 1, 1, 0, 1, 0, 0, 0, 0, 1, 0, 0]), .inBlock 2, .inBlock 1, .code (subC (codeOf Try.f9) [1, 0, 1, 1, 1, 1, 0, 1, 0, 0, 1]), .inLoop (subC (codeOf Try.f9) [1, 0, 1, 1, 1, 1, 0, 1, 0, 0]), .inBlock 0, .code (subC (codeOf Try.f9) [1, 0, 1, 1, 1, 1, 1]), .inScope (subC (codeOf Try.f9) [1, 0])]
def A9_4 (x4 : Int) (Ax5 : Option Addr) (lx5 : Nat) (cx5 : Nat) (x6 : Int) (x7 : Int) (x8 : Int) (x40 : Bool) (M : Mem) (Q : Value → Mem → Prop) : Prop := ∀ (g0 g1 g2 g3 g9 g10 g11 g12 g13 g14 g15 g16 g17 g18 g19 g20 g21 g22 g23 g24 g25 g26 g27 g28 g29 g30 g31 g32 g33 g34 g35 g36 g37 g38 g39 g41 g42 g43 g44 g45 g46 g47 g48 g49 g50 g51 g52 g53 g54 g55 g56 : Value), Rn Try.prog Try.f9 S9_4 #[g0, g1, g2, g3, .int .i64 x4, .slice Ax5 lx5 cx5, .int .i64 x6, .int .i64 x7, .int .i64 x8, g9, g10, g11, g12, g13, g14, g15, g16, g17, g18, g19, g20, g21, g22, g23, g24, g25, g26, g27, g28, g29, g30, g31, g32, g33, g34, g35, g36, g37, g38, g39, .bool x40, g41, g42, g43, g44, g45, g46, g47, g48, g49, g50, g51, g52, g53, g54, g55, g56] M Q
theorem w9_0 {x0 : Int} {M : Mem} {Q : Value → Mem → Prop} (H :
    Cn Try.prog 21 #[.int .i64 x0] M fun v1' N1' =>
     ∃ x2', asI .i64 v1' = some x2' ∧
     ((x2' = 0 →
      Q (.tuple #[.slice none 0 0, .int .i64 2]) N1') ∧
      (x2' ≠ 0 →
      ∃ r3', makeP Try.prog 22 (.int .i64 0) (.int .i64 (IntKind.i64.wrap (x2' * x2'))) N1' = some r3' ∧
      ∃ s4', asS r3'.1 = some s4' ∧
      A9_1 x2' s4'.1 s4'.2.1 s4'.2.2 0 r3'.2 Q))) :
    Cn Try.prog 9 #[.int .i64 x0] M Q := by
  refine Cn.of b9 d9 t9 ?_
  refine Rn.seq k9_0 ?_
  refine Rn.region k9_1 (fun call K => r9_0) ?_
  refine Rch.leaf ?_
  refine Rn.scope k9_2 ?_
  refine Rn.seq k9_3 ?_
  refine Rn.region k9_4 (fun call K => r9_1) ?_
  refine Rch.call H (fun v1' N1' H => ?_)
  obtain ⟨x2', hx2', H⟩ := H
  refine Rch.bind hx2' ?_
  refine Rch.leaf ?_
  refine Rn.seq k9_5 ?_
  refine Rn.seq k9_6 ?_
  refine Rn.region k9_7 (fun call K => r9_2) ?_
  refine Rch.leaf ?_
  refine Rn.cnd c9_8 (fun h => ?_) (fun h => ?_)
  · replace H := H.1 (eq_of_beq h)
    refine Rn.seq k9_9 ?_
    refine Rn.region k9_10 (fun call K => r9_3) ?_
    refine Rch.leaf ?_
    exact Rn.ret k9_11 e9 H
  · replace H := H.2 (ne_of_beq_false h)
    refine Rn.skip k9_13 ?_
    refine Rn.seq k9_14 ?_
    refine Rn.region k9_15 (fun call K => r9_4) ?_
    obtain ⟨r3', hr3', H⟩ := H
    refine Rch.bind hr3' ?_
    obtain ⟨s4', hs4', H⟩ := H
    refine Rch.bind hs4' ?_
    refine Rch.leaf ?_
    refine Rn.seq k9_16 ?_
    refine Rn.label k9_17 ?_
    refine Rn.seq k9_18 ?_
    refine Rn.seq k9_19 ?_
    refine Rn.region k9_20 (fun call K => r9_5) ?_
    refine Rch.leaf ?_
    refine Rn.block k9_21 ?_
    refine Rn.loop k9_22 ?_
    exact H _ _ _ _ _ _ _ _ _ _ _ _ _ _ _ _ _ _ _ _ _ _ _ _ _ _ _ _ _ _ _ _ _ _ _ _ _ _ _ _ _ _ _ _ _ _ _ _ _ _ _ _ _ _

theorem w9_1 {x4 : Int} {Ax5 : Option Addr} {lx5 : Nat} {cx5 : Nat} {x6 : Int} {M : Mem} {Q : Value → Mem → Prop} (H :
    A9_2 x4 Ax5 lx5 cx5 x6 (if IntKind.i64.wrap ((IntKind.i64.wrap (x6 - x4)) + 1) > 0 then IntKind.i64.wrap ((IntKind.i64.wrap (x6 - x4)) + 1) else 0) M Q) :
    A9_1 x4 Ax5 lx5 cx5 x6 M Q := by
  intro g0 g1 g2 g3 g7 g8 g9 g10 g11 g12 g13 g14 g15 g16 g17 g18 g19 g20 g21 g22 g23 g24 g25 g26 g27 g28 g29 g30 g31 g32 g33 g34 g35 g36 g37 g38 g39 g40 g41 g42 g43 g44 g45 g46 g47 g48 g49 g50 g51 g52 g53 g54 g55 g56
  refine Rn.seq k9_23 ?_
  refine Rn.block k9_24 ?_
  refine Rn.seq k9_25 ?_
  refine Rn.region k9_26 (fun call K => r9_7) ?_
  refine Rch.leaf ?_
  refine Rn.block k9_27 ?_
  refine Rn.loop k9_28 ?_
  exact H _ _ _ _ _ _ _ _ _ _ _ _ _ _ _ _ _ _ _ _ _ _ _ _ _ _ _ _ _ _ _ _ _ _ _ _ _ _ _ _ _ _ _ _ _ _ _ _ _ _ _ _ _

theorem w9_2 {x4 : Int} {Ax5 : Option Addr} {lx5 : Nat} {cx5 : Nat} {x6 : Int} {x7 : Int} {M : Mem} {Q : Value → Mem → Prop} (H :
    ((x7 = x4 →
     A9_3 x4 Ax5 lx5 cx5 x6 x7 (IntKind.i64.wrap (x6 - x7)) (x6 == (IntKind.i64.wrap ((IntKind.i64.wrap (2 * x4)) - 1))) M Q) ∧
     (x7 ≠ x4 →
     A9_3 x4 Ax5 lx5 cx5 x6 x7 (IntKind.i64.wrap (x6 - x7)) false M Q))) :
    A9_2 x4 Ax5 lx5 cx5 x6 x7 M Q := by
  intro g0 g1 g2 g3 g8 g9 g10 g11 g12 g13 g14 g15 g16 g17 g18 g19 g20 g21 g22 g23 g24 g25 g26 g27 g28 g29 g30 g31 g32 g33 g34 g35 g36 g37 g38 g39 g40 g41 g42 g43 g44 g45 g46 g47 g48 g49 g50 g51 g52 g53 g54 g55 g56
  refine Rn.seq k9_29 ?_
  refine Rn.block k9_30 ?_
  refine Rn.seq k9_31 ?_
  refine Rn.region k9_32 (fun call K => r9_9) ?_
  refine Rch.leaf ?_
  refine Rn.seq k9_33 ?_
  refine Rn.block k9_34 ?_
  refine Rn.seq k9_35 ?_
  refine Rn.region k9_36 (fun call K => r9_10) ?_
  refine Rch.cB (fun h => ?_) (fun h => ?_)
  · replace H := H.1 (eq_of_beq h)
    refine Rch.leaf ?_
    exact H _ _ _ _ _ _ _ _ _ _ _ _ _ _ _ _ _ _ _ _ _ _ _ _ _ _ _ _ _ _ _ _ _ _ _ _ _ _ _ _ _ _ _ _ _ _ _ _ _ _ _
  · replace H := H.2 (ne_of_beq_false h)
    refine Rch.leaf ?_
    exact H _ _ _ _ _ _ _ _ _ _ _ _ _ _ _ _ _ _ _ _ _ _ _ _ _ _ _ _ _ _ _ _ _ _ _ _ _ _ _ _ _ _ _ _ _ _ _ _ _ _ _

theorem w9_3 {x4 : Int} {Ax5 : Option Addr} {lx5 : Nat} {cx5 : Nat} {x6 : Int} {x7 : Int} {x8 : Int} {x29 : Bool} {M : Mem} {Q : Value → Mem → Prop} (H :
    ((x29 = true →
     Q (.tuple #[.slice Ax5 lx5 cx5, .int .i64 0]) M) ∧
     (x29 = false →
     ((x7 = x4 →
      A9_4 x4 Ax5 lx5 cx5 x6 x7 x8 true M Q) ∧
      (x7 ≠ x4 →
      A9_4 x4 Ax5 lx5 cx5 x6 x7 x8 (decide (x8 < 0)) M Q))))) :
    A9_3 x4 Ax5 lx5 cx5 x6 x7 x8 x29 M Q := by
  intro g0 g1 g2 g3 g9 g10 g11 g12 g13 g14 g15 g16 g17 g18 g19 g20 g21 g22 g23 g24 g25 g26 g27 g28 g30 g31 g32 g33 g34 g35 g36 g37 g38 g39 g40 g41 g42 g43 g44 g45 g46 g47 g48 g49 g50 g51 g52 g53 g54 g55 g56
  refine Rn.cnd c9_37 (fun h => ?_) (fun h => ?_)
  · replace H := H.1 (h)
    refine Rn.exit k9_38 rfl ?_
    refine Rn.seq k9_39 ?_
    refine Rn.region k9_40 (fun call K => r9_13) ?_
    refine Rch.leaf ?_
    exact Rn.ret k9_41 e9 H
  · replace H := H.2 (h)
    refine Rn.seq k9_42 ?_
    refine Rn.region k9_43 (fun call K => r9_11) ?_
    refine Rch.cB (fun h => ?_) (fun h => ?_)
    · replace H := H.1 (eq_of_beq h)
      refine Rch.leaf ?_
      exact H _ _ _ _ _ _ _ _ _ _ _ _ _ _ _ _ _ _ _ _ _ _ _ _ _ _ _ _ _ _ _ _ _ _ _ _ _ _ _ _ _ _ _ _ _ _ _ _ _ _ _
    · replace H := H.2 (ne_of_beq_false h)
      refine Rch.leaf ?_
      exact H _ _ _ _ _ _ _ _ _ _ _ _ _ _ _ _ _ _ _ _ _ _ _ _ _ _ _ _ _ _ _ _ _ _ _ _ _ _ _ _ _ _ _ _ _ _ _ _ _ _ _

theorem w9_4 {x4 : Int} {Ax5 : Option Addr} {lx5 : Nat} {cx5 : Nat} {x6 : Int} {x7 : Int} {x8 : Int} {x40 : Bool} {M : Mem} {Q : Value → Mem → Prop} (H :
    ((x40 = true →
     A9_1 x4 Ax5 lx5 cx5 (IntKind.i64.wrap (x6 + 1)) M Q) ∧
     (x40 = false →
     ∃ r5', appendP Try.prog #[22, 22] (.slice Ax5 lx5 cx5) (.slice (some ⟨2 * M.nb.size, 0, none⟩) 1 1) (M.new (.cells #[.int .i64 (IntKind.i64.wrap ((IntKind.i64.wrap (x7 * x4)) + x8))] 3)) = some r5' ∧
     ∃ s6', asS r5'.1 = some s6' ∧
     A9_2 x4 s6'.1 s6'.2.1 s6'.2.2 x6 (IntKind.i64.wrap (x7 + 1)) r5'.2 Q))) :
    A9_4 x4 Ax5 lx5 cx5 x6 x7 x8 x40 M Q := by
  intro g0 g1 g2 g3 g9 g10 g11 g12 g13 g14 g15 g16 g17 g18 g19 g20 g21 g22 g23 g24 g25 g26 g27 g28 g29 g30 g31 g32 g33 g34 g35 g36 g37 g38 g39 g41 g42 g43 g44 g45 g46 g47 g48 g49 g50 g51 g52 g53 g54 g55 g56
  refine Rn.cnd c9_44 (fun h => ?_) (fun h => ?_)
  · replace H := H.1 (h)
    refine Rn.exit k9_45 rfl ?_
    refine Rn.region k9_46 (fun call K => r9_6) ?_
    refine Rch.leaf ?_
    refine Rn.lp ?_
    exact H _ _ _ _ _ _ _ _ _ _ _ _ _ _ _ _ _ _ _ _ _ _ _ _ _ _ _ _ _ _ _ _ _ _ _ _ _ _ _ _ _ _ _ _ _ _ _ _ _ _ _ _ _ _
  · replace H := H.2 (h)
    refine Rn.skip k9_47 ?_
    refine Rn.blk ?_
    refine Rn.region k9_48 (fun call K => r9_12) ?_
    obtain ⟨r5', hr5', H⟩ := H
    refine Rch.bind hr5' ?_
    obtain ⟨s6', hs6', H⟩ := H
    refine Rch.bind hs6' ?_
    refine Rch.leaf ?_
    refine Rn.blk ?_
    refine Rn.region k9_49 (fun call K => r9_8) ?_
    refine Rch.leaf ?_
    refine Rn.lp ?_
    exact H _ _ _ _ _ _ _ _ _ _ _ _ _ _ _ _ _ _ _ _ _ _ _ _ _ _ _ _ _ _ _ _ _ _ _ _ _ _ _ _ _ _ _ _ _ _ _ _ _ _ _ _ _


/-! ### zoetrope/zoetroperef10.Order: function 10 -/
theorem b10 : Try.prog.funcs[10]? = some Try.f10 := by kernel_rfl
theorem d10 : Try.f10.body = some (subC (codeOf Try.f10) []) := by kernel_rfl
theorem t10 {x0 : Int} : #[.int .i64 x0] ++ Array.replicate (Try.f10.ntmps - (#[.int .i64 x0] : Array Value).size) undef = #[.int .i64 x0, undef, undef, undef, undef, undef, undef, undef, undef, undef, undef, undef, undef, undef, undef, undef, undef, undef, undef, undef, undef, undef, undef, undef, undef, undef, undef, undef, undef, undef, undef, undef, undef, undef, undef, undef, undef, undef, undef, undef, undef, undef, undef, undef] := by kernel_rfl
theorem k10_0 : subC (codeOf Try.f10) [] = .seq (subC (codeOf Try.f10) [0]) (subC (codeOf Try.f10) [1]) := by kernel_rfl
theorem k10_1 : subC (codeOf Try.f10) [0] = .region 0 (opsOf (subC (codeOf Try.f10) [0])) false := by kernel_rfl
theorem r10_0 {g0 g1 g2 g3 g4 g5 g6 g7 g8 g9 g10 g11 g12 g13 g14 g15 g16 g17 g18 g19 g20 g21 g22 g23 g24 g25 g26 g27 g28 g29 g30 g31 g32 g33 g34 g35 g36 g37 g38 g39 g40 g41 g42 g43 : Value} {M : Mem} {call : CallM} {K : Array Value → Mem → R} :
    opsK Try.prog (fun _ => call) (opsOf (subC (codeOf Try.f10) [0])) (opsOf (subC (codeOf Try.f10) [0])).toList 0 #[g0, g1, g2, g3, g4, g5, g6, g7, g8, g9, g10, g11, g12, g13, g14, g15, g16, g17, g18, g19, g20, g21, g22, g23, g24, g25, g26, g27, g28, g29, g30, g31, g32, g33, g34, g35, g36, g37, g38, g39, g40, g41, g42, g43] M K = K #[g0, g1, .slice none 0 0, .int .i64 0, g4, g5, g6, g7, g8, g9, g10, g11, g12, g13, g14, g15, g16, g17, g18, g19, g20, g21, g22, g23, g24, g25, g26, g27, g28, g29, g30, g31, g32, g33, g34, g35, g36, g37, g38, g39, g40, g41, g42, g43] M := by kernel_rfl
theorem k10_2 : subC (codeOf Try.f10) [1] = .seq (subC (codeOf Try.f10) [1, 0]) (subC (codeOf Try.f10) [1, 1]) := by kernel_rfl
theorem k10_3 : subC (codeOf Try.f10) [1, 0] = .region 1 (opsOf (subC (codeOf Try.f10) [1, 0])) false := by kernel_rfl
theorem r10_1 {x0 : Int} {g1 g2 g3 g4 g5 g6 g7 g8 g9 g10 g11 g12 g13 g14 g15 g16 g17 g18 g19 g20 g21 g22 g23 g24 g25 g26 g27 g28 g29 g30 g31 g32 g33 g34 g35 g36 g37 g38 g39 g40 g41 g42 g43 : Value} {M : Mem} {call : CallM} {K : Array Value → Mem → R} :
    opsK Try.prog (fun _ => call) (opsOf (subC (codeOf Try.f10) [1, 0])) (opsOf (subC (codeOf Try.f10) [1, 0])).toList 0 #[.int .i64 x0, g1, g2, g3, g4, g5, g6, g7, g8, g9, g10, g11, g12, g13, g14, g15, g16, g17, g18, g19, g20, g21, g22, g23, g24, g25, g26, g27, g28, g29, g30, g31, g32, g33, g34, g35, g36, g37, g38, g39, g40, g41, g42, g43] M K = (call 22 #[.int .i64 x0] M).bind fun r_1 => (asI .i64 r_1.1).bind fun x_2 => K #[.int .i64 x0, g1, g2, g3, .int .i64 x_2, g5, g6, g7, g8, .int .i64 x0, .int .i64 x_2, g11, g12, g13, g14, g15, g16, g17, g18, g19, g20, g21, g22, g23, g24, g25, g26, g27, g28, g29, g30, g31, g32, g33, g34, g35, g36, g37, g38, g39, g40, g41, g42, g43] r_1.2 := by kernel_rfl
theorem k10_4 : subC (codeOf Try.f10) [1, 1] = .seq (subC (codeOf Try.f10) [1, 1, 0]) (subC (codeOf Try.f10) [1, 1, 1]) := by kernel_rfl
theorem k10_5 : subC (codeOf Try.f10) [1, 1, 0] = .seq (subC (codeOf Try.f10) [1, 1, 0, 0]) (subC (codeOf Try.f10) [1, 1, 0, 1]) := by kernel_rfl
theorem k10_6 : subC (codeOf Try.f10) [1, 1, 0, 0] = .region 2 (opsOf (subC (codeOf Try.f10) [1, 1, 0, 0])) false := by kernel_rfl
theorem r10_2 {x4 : Int} {g0 g1 g2 g3 g5 g6 g7 g8 g9 g10 g11 g12 g13 g14 g15 g16 g17 g18 g19 g20 g21 g22 g23 g24 g25 g26 g27 g28 g29 g30 g31 g32 g33 g34 g35 g36 g37 g38 g39 g40 g41 g42 g43 : Value} {M : Mem} {call : CallM} {K : Array Value → Mem → R} :
    opsK Try.prog (fun _ => call) (opsOf (subC (codeOf Try.f10) [1, 1, 0, 0])) (opsOf (subC (codeOf Try.f10) [1, 1, 0, 0])).toList 0 #[g0, g1, g2, g3, .int .i64 x4, g5, g6, g7, g8, g9, g10, g11, g12, g13, g14, g15, g16, g17, g18, g19, g20, g21, g22, g23, g24, g25, g26, g27, g28, g29, g30, g31, g32, g33, g34, g35, g36, g37, g38, g39, g40, g41, g42, g43] M K = K #[g0, g1, g2, g3, .int .i64 x4, g5, g6, g7, g8, g9, g10, .int .i64 x4, .bool (x4 == 0), g13, g14, g15, g16, g17, g18, g19, g20, g21, g22, g23, g24, g25, g26, g27, g28, g29, g30, g31, g32, g33, g34, g35, g36, g37, g38, g39, g40, g41, g42, g43] M := by kernel_rfl
theorem c10_7 {x12 : Bool} {g0 g1 g2 g3 g4 g5 g6 g7 g8 g9 g10 g11 g13 g14 g15 g16 g17 g18 g19 g20 g21 g22 g23 g24 g25 g26 g27 g28 g29 g30 g31 g32 g33 g34 g35 g36 g37 g38 g39 g40 g41 g42 g43 : Value} : subC (codeOf Try.f10) [1, 1, 0, 1] = .cond (.tmp 12) (subC (codeOf Try.f10) [1, 1, 0, 1, 0]) (subC (codeOf Try.f10) [1, 1, 0, 1, 1]) ∧ okOperand (.tmp 12) = true ∧ evalT #[g0, g1, g2, g3, g4, g5, g6, g7, g8, g9, g10, g11, .bool x12, g13, g14, g15, g16, g17, g18, g19, g20, g21, g22, g23, g24, g25, g26, g27, g28, g29, g30, g31, g32, g33, g34, g35, g36, g37, g38, g39, g40, g41, g42, g43] (.tmp 12) = .bool x12 := ⟨by kernel_rfl, by kernel_rfl, by kernel_rfl⟩
theorem k10_8 : subC (codeOf Try.f10) [1, 1, 0, 1, 0] = .seq (subC (codeOf Try.f10) [1, 1, 0, 1, 0, 0]) (subC (codeOf Try.f10) [1, 1, 0, 1, 0, 1]) := by kernel_rfl
theorem k10_9 : subC (codeOf Try.f10) [1, 1, 0, 1, 0, 0] = .region 3 (opsOf (subC (codeOf Try.f10) [1, 1, 0, 1, 0, 0])) false := by kernel_rfl
theorem r10_3 {g0 g1 g2 g3 g4 g5 g6 g7 g8 g9 g10 g11 g12 g13 g14 g15 g16 g17 g18 g19 g20 g21 g22 g23 g24 g25 g26 g27 g28 g29 g30 g31 g32 g33 g34 g35 g36 g37 g38 g39 g40 g41 g42 g43 : Value} {M : Mem} {call : CallM} {K : Array Value → Mem → R} :
    opsK Try.prog (fun _ => call) (opsOf (subC (codeOf Try.f10) [1, 1, 0, 1, 0, 0])) (opsOf (subC (codeOf Try.f10) [1, 1, 0, 1, 0, 0])).toList 0 #[g0, g1, g2, g3, g4, g5, g6, g7, g8, g9, g10, g11, g12, g13, g14, g15, g16, g17, g18, g19, g20, g21, g22, g23, g24, g25, g26, g27, g28, g29, g30, g31, g32, g33, g34, g35, g36, g37, g38, g39, g40, g41, g42, g43] M K = K #[g0, g1, .slice none 0 0, .int .i64 2, g4, g5, g6, g7, g8, g9, g10, g11, g12, g13, g14, g15, g16, g17, g18, g19, g20, g21, g22, g23, g24, g25, g26, g27, g28, g29, g30, g31, g32, g33, g34, g35, g36, g37, g38, g39, g40, g41, g42, g43] M := by kernel_rfl
theorem k10_10 : subC (codeOf Try.f10) [1, 1, 0, 1, 0, 1] = .ret := by kernel_rfl
theorem e10 {g0 g1 g2 g3 g4 g5 g6 g7 g8 g9 g10 g11 g12 g13 g14 g15 g16 g17 g18 g19 g20 g21 g22 g23 g24 g25 g26 g27 g28 g29 g30 g31 g32 g33 g34 g35 g36 g37 g38 g39 g40 g41 g42 g43 : Value} {M : Mem} : finish Try.prog Try.f10 #[g0, g1, g2, g3, g4, g5, g6, g7, g8, g9, g10, g11, g12, g13, g14, g15, g16, g17, g18, g19, g20, g21, g22, g23, g24, g25, g26, g27, g28, g29, g30, g31, g32, g33, g34, g35, g36, g37, g38, g39, g40, g41, g42, g43] M = some (.tuple #[g2, g3], M) := by kernel_rfl
theorem k10_12 : subC (codeOf Try.f10) [1, 1, 0, 1, 1] = .skip := by kernel_rfl
theorem k10_13 : subC (codeOf Try.f10) [1, 1, 1] = .seq (subC (codeOf Try.f10) [1, 1, 1, 0]) (subC (codeOf Try.f10) [1, 1, 1, 1]) := by kernel_rfl
theorem k10_14 : subC (codeOf Try.f10) [1, 1, 1, 0] = .region 4 (opsOf (subC (codeOf Try.f10) [1, 1, 1, 0])) false := by kernel_rfl
theorem r10_4 {g0 g1 g2 g3 g4 g5 g6 g7 g8 g9 g10 g11 g12 g13 g14 g15 g16 g17 g18 g19 g20 g21 g22 g23 g24 g25 g26 g27 g28 g29 g30 g31 g32 g33 g34 g35 g36 g37 g38 g39 g40 g41 g42 g43 : Value} {M : Mem} {call : CallM} {K : Array Value → Mem → R} :
    opsK Try.prog (fun _ => call) (opsOf (subC (codeOf Try.f10) [1, 1, 1, 0])) (opsOf (subC (codeOf Try.f10) [1, 1, 1, 0])).toList 0 #[g0, g1, g2, g3, g4, g5, g6, g7, g8, g9, g10, g11, g12, g13, g14, g15, g16, g17, g18, g19, g20, g21, g22, g23, g24, g25, g26, g27, g28, g29, g30, g31, g32, g33, g34, g35, g36, g37, g38, g39, g40, g41, g42, g43] M K = K #[g0, g1, g2, g3, g4, .slice none 0 0, g6, g7, g8, g9, g10, g11, g12, g13, g14, g15, g16, g17, g18, g19, g20, g21, g22, g23, g24, g25, g26, g27, g28, g29, g30, g31, g32, g33, g34, g35, g36, g37, g38, g39, g40, g41, g42, g43] M := by kernel_rfl
theorem k10_15 : subC (codeOf Try.f10) [1, 1, 1, 1] = .seq (subC (codeOf Try.f10) [1, 1, 1, 1, 0]) (subC (codeOf Try.f10) [1, 1, 1, 1, 1]) := by kernel_rfl
theorem k10_16 : subC (codeOf Try.f10) [1, 1, 1, 1, 0] = .seq (subC (codeOf Try.f10) [1, 1, 1, 1, 0, 0]) (subC (codeOf Try.f10) [1, 1, 1, 1, 0, 1]) := by kernel_rfl
theorem k10_17 : subC (codeOf Try.f10) [1, 1, 1, 1, 0, 0] = .region 5 (opsOf (subC (codeOf Try.f10) [1, 1, 1, 1, 0, 0])) false := by kernel_rfl
theorem r10_5 {g0 g1 g2 g3 g4 g5 g6 g7 g8 g9 g10 g11 g12 g13 g14 g15 g16 g17 g18 g19 g20 g21 g22 g23 g24 g25 g26 g27 g28 g29 g30 g31 g32 g33 g34 g35 g36 g37 g38 g39 g40 g41 g42 g43 : Value} {M : Mem} {call : CallM} {K : Array Value → Mem → R} :
    opsK Try.prog (fun _ => call) (opsOf (subC (codeOf Try.f10) [1, 1, 1, 1, 0, 0])) (opsOf (subC (codeOf Try.f10) [1, 1, 1, 1, 0, 0])).toList 0 #[g0, g1, g2, g3, g4, g5, g6, g7, g8, g9, g10, g11, g12, g13, g14, g15, g16, g17, g18, g19, g20, g21, g22, g23, g24, g25, g26, g27, g28, g29, g30, g31, g32, g33, g34, g35, g36, g37, g38, g39, g40, g41, g42, g43] M K = K #[g0, g1, g2, g3, g4, g5, .int .i64 0, g7, g8, g9, g10, g11, g12, g13, g14, g15, g16, g17, g18, g19, g20, g21, g22, g23, g24, g25, g26, g27, g28, g29, g30, g31, g32, g33, g34, g35, g36, g37, g38, g39, g40, g41, g42, g43] M := by kernel_rfl
theorem k10_18 : subC (codeOf Try.f10) [1, 1, 1, 1, 0, 1] = .block 0 (subC (codeOf Try.f10) [1, 1, 1, 1, 0, 1, 0]) := by kernel_rfl
theorem k10_19 : subC (codeOf Try.f10) [1, 1, 1, 1, 0, 1, 0] = .loop (subC (codeOf Try.f10) [1, 1, 1, 1, 0, 1, 0, 0]) := by kernel_rfl
theorem k10_20 : subC (codeOf Try.f10) [1, 1, 1, 1, 0, 1, 0, 0] = .seq (subC (codeOf Try.f10) [1, 1, 1, 1, 0, 1, 0, 0, 0]) (subC (codeOf Try.f10) [1, 1, 1, 1, 0, 1, 0, 0, 1]) := by kernel_rfl
theorem k10_21 : subC (codeOf Try.f10) [1, 1, 1, 1, 0, 1, 0, 0, 0] = .seq (subC (codeOf Try.f10) [1, 1, 1, 1, 0, 1, 0, 0, 0, 0]) (subC (codeOf Try.f10) [1, 1, 1, 1, 0, 1, 0, 0, 0, 1]) := by kernel_rfl
theorem k10_22 : subC (codeOf Try.f10) [1, 1, 1, 1, 0, 1, 0, 0, 0, 0] = .region 6 (opsOf (subC (codeOf Try.f10) [1, 1, 1, 1, 0, 1, 0, 0, 0, 0])) false := by kernel_rfl
theorem r10_6 {x4 : Int} {x6 : Int} {g0 g1 g2 g3 g5 g7 g8 g9 g10 g11 g12 g13 g14 g15 g16 g17 g18 g19 g20 g21 g22 g23 g24 g25 g26 g27 g28 g29 g30 g31 g32 g33 g34 g35 g36 g37 g38 g39 g40 g41 g42 g43 : Value} {M : Mem} {call : CallM} {K : Array Value → Mem → R} :
    opsK Try.prog (fun _ => call) (opsOf (subC (codeOf Try.f10) [1, 1, 1, 1, 0, 1, 0, 0, 0, 0])) (opsOf (subC (codeOf Try.f10) [1, 1, 1, 1, 0, 1, 0, 0, 0, 0])).toList 0 #[g0, g1, g2, g3, .int .i64 x4, g5, .int .i64 x6, g7, g8, g9, g10, g11, g12, g13, g14, g15, g16, g17, g18, g19, g20, g21, g22, g23, g24, g25, g26, g27, g28, g29, g30, g31, g32, g33, g34, g35, g36, g37, g38, g39, g40, g41, g42, g43] M K = K #[g0, g1, g2, g3, .int .i64 x4, g5, .int .i64 x6, g7, g8, g9, g10, g11, g12, .int .i64 x6, .int .i64 x4, .int .i64 (IntKind.i64.wrap (2 * x4)), .int .i64 (IntKind.i64.wrap ((IntKind.i64.wrap (2 * x4)) - 2)), .bool (decide (x6 ≤ (IntKind.i64.wrap ((IntKind.i64.wrap (2 * x4)) - 2)))), g18, g19, g20, g21, g22, g23, g24, g25, g26, g27, g28, g29, g30, g31, g32, g33, g34, g35, g36, g37, g38, g39, g40, g41, g42, g43] M := by kernel_rfl
theorem c10_23 {x17 : Bool} {g0 g1 g2 g3 g4 g5 g6 g7 g8 g9 g10 g11 g12 g13 g14 g15 g16 g18 g19 g20 g21 g22 g23 g24 g25 g26 g27 g28 g29 g30 g31 g32 g33 g34 g35 g36 g37 g38 g39 g40 g41 g42 g43 : Value} : subC (codeOf Try.f10) [1, 1, 1, 1, 0, 1, 0, 0, 0, 1] = .cond (.tmp 17) (subC (codeOf Try.f10) [1, 1, 1, 1, 0, 1, 0, 0, 0, 1, 0]) (subC (codeOf Try.f10) [1, 1, 1, 1, 0, 1, 0, 0, 0, 1, 1]) ∧ okOperand (.tmp 17) = true ∧ evalT #[g0, g1, g2, g3, g4, g5, g6, g7, g8, g9, g10, g11, g12, g13, g14, g15, g16, .bool x17, g18, g19, g20, g21, g22, g23, g24, g25, g26, g27, g28, g29, g30, g31, g32, g33, g34, g35, g36, g37, g38, g39, g40, g41, g42, g43] (.tmp 17) = .bool x17 := ⟨by kernel_rfl, by kernel_rfl, by kernel_rfl⟩
theorem k10_24 : subC (codeOf Try.f10) [1, 1, 1, 1, 0, 1, 0, 0, 0, 1, 0] = .skip := by kernel_rfl
theorem k10_25 : subC (codeOf Try.f10) [1, 1, 1, 1, 0, 1, 0, 0, 1] = .seq (subC (codeOf Try.f10) [1, 1, 1, 1, 0, 1, 0, 0, 1, 0]) (subC (codeOf Try.f10) [1, 1, 1, 1, 0, 1, 0, 0, 1, 1]) := by kernel_rfl
theorem k10_26 : subC (codeOf Try.f10) [1, 1, 1, 1, 0, 1, 0, 0, 1, 0] = .block 1 (subC (codeOf Try.f10) [1, 1, 1, 1, 0, 1, 0, 0, 1, 0, 0]) := by kernel_rfl
theorem k10_27 : subC (codeOf Try.f10) [1, 1, 1, 1, 0, 1, 0, 0, 1, 0, 0] = .seq (subC (codeOf Try.f10) [1, 1, 1, 1, 0, 1, 0, 0, 1, 0, 0, 0]) (subC (codeOf Try.f10) [1, 1, 1, 1, 0, 1, 0, 0, 1, 0, 0, 1]) := by kernel_rfl
theorem k10_28 : subC (codeOf Try.f10) [1, 1, 1, 1, 0, 1, 0, 0, 1, 0, 0, 0] = .region 8 (opsOf (subC (codeOf Try.f10) [1, 1, 1, 1, 0, 1, 0, 0, 1, 0, 0, 0])) false := by kernel_rfl
theorem r10_8 {g0 g1 g2 g3 g4 g5 g6 g7 g8 g9 g10 g11 g12 g13 g14 g15 g16 g17 g18 g19 g20 g21 g22 g23 g24 g25 g26 g27 g28 g29 g30 g31 g32 g33 g34 g35 g36 g37 g38 g39 g40 g41 g42 g43 : Value} {M : Mem} {call : CallM} {K : Array Value → Mem → R} :
    opsK Try.prog (fun _ => call) (opsOf (subC (codeOf Try.f10) [1, 1, 1, 1, 0, 1, 0, 0, 1, 0, 0, 0])) (opsOf (subC (codeOf Try.f10) [1, 1, 1, 1, 0, 1, 0, 0, 1, 0, 0, 0])).toList 0 #[g0, g1, g2, g3, g4, g5, g6, g7, g8, g9, g10, g11, g12, g13, g14, g15, g16, g17, g18, g19, g20, g21, g22, g23, g24, g25, g26, g27, g28, g29, g30, g31, g32, g33, g34, g35, g36, g37, g38, g39, g40, g41, g42, g43] M K = K #[g0, g1, g2, g3, g4, g5, g6, .int .i64 0, g8, g9, g10, g11, g12, g13, g14, g15, g16, g17, g18, g19, g20, g21, g22, g23, g24, g25, g26, g27, g28, g29, g30, g31, g32, g33, g34, g35, g36, g37, g38, g39, g40, g41, g42, g43] M := by kernel_rfl
theorem k10_29 : subC (codeOf Try.f10) [1, 1, 1, 1, 0, 1, 0, 0, 1, 0, 0, 1] = .block 2 (subC (codeOf Try.f10) [1, 1, 1, 1, 0, 1, 0, 0, 1, 0, 0, 1, 0]) := by kernel_rfl
theorem k10_30 : subC (codeOf Try.f10) [1, 1, 1, 1, 0, 1, 0, 0, 1, 0, 0, 1, 0] = .loop (subC (codeOf Try.f10) [1, 1, 1, 1, 0, 1, 0, 0, 1, 0, 0, 1, 0, 0]) := by kernel_rfl
theorem k10_31 : subC (codeOf Try.f10) [1, 1, 1, 1, 0, 1, 0, 0, 0, 1, 1] = .exit 0 := by kernel_rfl
theorem k10_32 : subC (codeOf Try.f10) [1, 1, 1, 1, 1] = .seq (subC (codeOf Try.f10) [1, 1, 1, 1, 1, 0]) (subC (codeOf Try.f10) [1, 1, 1, 1, 1, 1]) := by kernel_rfl
theorem k10_33 : subC (codeOf Try.f10) [1, 1, 1, 1, 1, 0] = .region 14 (opsOf (subC (codeOf Try.f10) [1, 1, 1, 1, 1, 0])) false := by kernel_rfl
theorem r10_14 {Ax5 : Option Addr} {lx5 : Nat} {cx5 : Nat} {g0 g1 g2 g3 g4 g6 g7 g8 g9 g10 g11 g12 g13 g14 g15 g16 g17 g18 g19 g20 g21 g22 g23 g24 g25 g26 g27 g28 g29 g30 g31 g32 g33 g34 g35 g36 g37 g38 g39 g40 g41 g42 g43 : Value} {M : Mem} {call : CallM} {K : Array Value → Mem → R} :
    opsK Try.prog (fun _ => call) (opsOf (subC (codeOf Try.f10) [1, 1, 1, 1, 1, 0])) (opsOf (subC (codeOf Try.f10) [1, 1, 1, 1, 1, 0])).toList 0 #[g0, g1, g2, g3, g4, .slice Ax5 lx5 cx5, g6, g7, g8, g9, g10, g11, g12, g13, g14, g15, g16, g17, g18, g19, g20, g21, g22, g23, g24, g25, g26, g27, g28, g29, g30, g31, g32, g33, g34, g35, g36, g37, g38, g39, g40, g41, g42, g43] M K = K #[g0, g1, .slice Ax5 lx5 cx5, .int .i64 0, g4, .slice Ax5 lx5 cx5, g6, g7, g8, g9, g10, g11, g12, g13, g14, g15, g16, g17, g18, g19, g20, g21, g22, g23, g24, g25, g26, g27, g28, g29, g30, g31, g32, g33, g34, g35, g36, g37, g38, g39, g40, g41, g42, .slice Ax5 lx5 cx5] M := by kernel_rfl
theorem k10_34 : subC (codeOf Try.f10) [1, 1, 1, 1, 1, 1] = .ret := by kernel_rfl
theorem k10_35 : subC (codeOf Try.f10) [1, 1, 1, 1, 0, 1, 0, 0, 1, 0, 0, 1, 0, 0] = .seq (subC (codeOf Try.f10) [1, 1, 1, 1, 0, 1, 0, 0, 1, 0, 0, 1, 0, 0, 0]) (subC (codeOf Try.f10) [1, 1, 1, 1, 0, 1, 0, 0, 1, 0, 0, 1, 0, 0, 1]) := by kernel_rfl
theorem k10_36 : subC (codeOf Try.f10) [1, 1, 1, 1, 0, 1, 0, 0, 1, 0, 0, 1, 0, 0, 0] = .seq (subC (codeOf Try.f10) [1, 1, 1, 1, 0, 1, 0, 0, 1, 0, 0, 1, 0, 0, 0, 0]) (subC (codeOf Try.f10) [1, 1, 1, 1, 0, 1, 0, 0, 1, 0, 0, 1, 0, 0, 0, 1]) := by kernel_rfl
theorem k10_37 : subC (codeOf Try.f10) [1, 1, 1, 1, 0, 1, 0, 0, 1, 0, 0, 1, 0, 0, 0, 0] = .region 9 (opsOf (subC (codeOf Try.f10) [1, 1, 1, 1, 0, 1, 0, 0, 1, 0, 0, 1, 0, 0, 0, 0])) false := by kernel_rfl
theorem r10_9 {x4 : Int} {x7 : Int} {g0 g1 g2 g3 g5 g6 g8 g9 g10 g11 g12 g13 g14 g15 g16 g17 g18 g19 g20 g21 g22 g23 g24 g25 g26 g27 g28 g29 g30 g31 g32 g33 g34 g35 g36 g37 g38 g39 g40 g41 g42 g43 : Value} {M : Mem} {call : CallM} {K : Array Value → Mem → R} :
    opsK Try.prog (fun _ => call) (opsOf (subC (codeOf Try.f10) [1, 1, 1, 1, 0, 1, 0, 0, 1, 0, 0, 1, 0, 0, 0, 0])) (opsOf (subC (codeOf Try.f10) [1, 1, 1, 1, 0, 1, 0, 0, 1, 0, 0, 1, 0, 0, 0, 0])).toList 0 #[g0, g1, g2, g3, .int .i64 x4, g5, g6, .int .i64 x7, g8, g9, g10, g11, g12, g13, g14, g15, g16, g17, g18, g19, g20, g21, g22, g23, g24, g25, g26, g27, g28, g29, g30, g31, g32, g33, g34, g35, g36, g37, g38, g39, g40, g41, g42, g43] M K = K #[g0, g1, g2, g3, .int .i64 x4, g5, g6, .int .i64 x7, g8, g9, g10, g11, g12, g13, g14, g15, g16, g17, g18, g19, .int .i64 x7, .int .i64 x4, .bool (decide (x7 < x4)), g23, g24, g25, g26, g27, g28, g29, g30, g31, g32, g33, g34, g35, g36, g37, g38, g39, g40, g41, g42, g43] M := by kernel_rfl
theorem c10_38 {x22 : Bool} {g0 g1 g2 g3 g4 g5 g6 g7 g8 g9 g10 g11 g12 g13 g14 g15 g16 g17 g18 g19 g20 g21 g23 g24 g25 g26 g27 g28 g29 g30 g31 g32 g33 g34 g35 g36 g37 g38 g39 g40 g41 g42 g43 : Value} : subC (codeOf Try.f10) [1, 1, 1, 1, 0, 1, 0, 0, 1, 0, 0, 1, 0, 0, 0, 1] = .cond (.tmp 22) (subC (codeOf Try.f10) [1, 1, 1, 1, 0, 1, 0, 0, 1, 0, 0, 1, 0, 0, 0, 1, 0]) (subC (codeOf Try.f10) [1, 1, 1, 1, 0, 1, 0, 0, 1, 0, 0, 1, 0, 0, 0, 1, 1]) ∧ okOperand (.tmp 22) = true ∧ evalT #[g0, g1, g2, g3, g4, g5, g6, g7, g8, g9, g10, g11, g12, g13, g14, g15, g16, g17, g18, g19, g20, g21, .bool x22, g23, g24, g25, g26, g27, g28, g29, g30, g31, g32, g33, g34, g35, g36, g37, g38, g39, g40, g41, g42, g43] (.tmp 22) = .bool x22 := ⟨by kernel_rfl, by kernel_rfl, by kernel_rfl⟩
theorem k10_39 : subC (codeOf Try.f10) [1, 1, 1, 1, 0, 1, 0, 0, 1, 0, 0, 1, 0, 0, 0, 1, 0] = .skip := by kernel_rfl
theorem k10_40 : subC (codeOf Try.f10) [1, 1, 1, 1, 0, 1, 0, 0, 1, 0, 0, 1, 0, 0, 1] = .seq (subC (codeOf Try.f10) [1, 1, 1, 1, 0, 1, 0, 0, 1, 0, 0, 1, 0, 0, 1, 0]) (subC (codeOf Try.f10) [1, 1, 1, 1, 0, 1, 0, 0, 1, 0, 0, 1, 0, 0, 1, 1]) := by kernel_rfl
theorem k10_41 : subC (codeOf Try.f10) [1, 1, 1, 1, 0, 1, 0, 0, 1, 0, 0, 1, 0, 0, 1, 0] = .block 3 (subC (codeOf Try.f10) [1, 1, 1, 1, 0, 1, 0, 0, 1, 0, 0, 1, 0, 0, 1, 0, 0]) := by kernel_rfl
theorem k10_42 : subC (codeOf Try.f10) [1, 1, 1, 1, 0, 1, 0, 0, 1, 0, 0, 1, 0, 0, 1, 0, 0] = .seq (subC (codeOf Try.f10) [1, 1, 1, 1, 0, 1, 0, 0, 1, 0, 0, 1, 0, 0, 1, 0, 0, 0]) (subC (codeOf Try.f10) [1, 1, 1, 1, 0, 1, 0, 0, 1, 0, 0, 1, 0, 0, 1, 0, 0, 1]) := by kernel_rfl
theorem k10_43 : subC (codeOf Try.f10) [1, 1, 1, 1, 0, 1, 0, 0, 1, 0, 0, 1, 0, 0, 1, 0, 0, 0] = .region 11 (opsOf (subC (codeOf Try.f10) [1, 1, 1, 1, 0, 1, 0, 0, 1, 0, 0, 1, 0, 0, 1, 0, 0, 0])) false := by kernel_rfl
theorem r10_11 {x6 : Int} {x7 : Int} {g0 g1 g2 g3 g4 g5 g8 g9 g10 g11 g12 g13 g14 g15 g16 g17 g18 g19 g20 g21 g22 g23 g24 g25 g26 g27 g28 g29 g30 g31 g32 g33 g34 g35 g36 g37 g38 g39 g40 g41 g42 g43 : Value} {M : Mem} {call : CallM} {K : Array Value → Mem → R} :
    opsK Try.prog (fun _ => call) (opsOf (subC (codeOf Try.f10) [1, 1, 1, 1, 0, 1, 0, 0, 1, 0, 0, 1, 0, 0, 1, 0, 0, 0])) (opsOf (subC (codeOf Try.f10) [1, 1, 1, 1, 0, 1, 0, 0, 1, 0, 0, 1, 0, 0, 1, 0, 0, 0])).toList 0 #[g0, g1, g2, g3, g4, g5, .int .i64 x6, .int .i64 x7, g8, g9, g10, g11, g12, g13, g14, g15, g16, g17, g18, g19, g20, g21, g22, g23, g24, g25, g26, g27, g28, g29, g30, g31, g32, g33, g34, g35, g36, g37, g38, g39, g40, g41, g42, g43] M K = K #[g0, g1, g2, g3, g4, g5, .int .i64 x6, .int .i64 x7, .int .i64 (IntKind.i64.wrap (x6 - x7)), g9, g10, g11, g12, g13, g14, g15, g16, g17, g18, g19, g20, g21, g22, g23, g24, .int .i64 x6, .int .i64 x7, .int .i64 (IntKind.i64.wrap (x6 - x7)), g28, g29, g30, g31, g32, g33, g34, g35, g36, g37, g38, g39, g40, g41, g42, g43] M := by kernel_rfl
theorem k10_44 : subC (codeOf Try.f10) [1, 1, 1, 1, 0, 1, 0, 0, 1, 0, 0, 1, 0, 0, 1, 0, 0, 1] = .seq (subC (codeOf Try.f10) [1, 1, 1, 1, 0, 1, 0, 0, 1, 0, 0, 1, 0, 0, 1, 0, 0, 1, 0]) (subC (codeOf Try.f10) [1, 1, 1, 1, 0, 1, 0, 0, 1, 0, 0, 1, 0, 0, 1, 0, 0, 1, 1]) := by kernel_rfl
theorem k10_45 : subC (codeOf Try.f10) [1, 1, 1, 1, 0, 1, 0, 0, 1, 0, 0, 1, 0, 0, 1, 0, 0, 1, 0] = .region 12 (opsOf (subC (codeOf Try.f10) [1, 1, 1, 1, 0, 1, 0, 0, 1, 0, 0, 1, 0, 0, 1, 0, 0, 1, 0])) false := by kernel_rfl
theorem r10_12 {x4 : Int} {x8 : Int} {g0 g1 g2 g3 g5 g6 g7 g9 g10 g11 g12 g13 g14 g15 g16 g17 g18 g19 g20 g21 g22 g23 g24 g25 g26 g27 g28 g29 g30 g31 g32 g33 g34 g35 g36 g37 g38 g39 g40 g41 g42 g43 : Value} {M : Mem} {call : CallM} {K : Array Value → Mem → R} :
    opsK Try.prog (fun _ => call) (opsOf (subC (codeOf Try.f10) [1, 1, 1, 1, 0, 1, 0, 0, 1, 0, 0, 1, 0, 0, 1, 0, 0, 1, 0])) (opsOf (subC (codeOf Try.f10) [1, 1, 1, 1, 0, 1, 0, 0, 1, 0, 0, 1, 0, 0, 1, 0, 0, 1, 0])).toList 0 #[g0, g1, g2, g3, .int .i64 x4, g5, g6, g7, .int .i64 x8, g9, g10, g11, g12, g13, g14, g15, g16, g17, g18, g19, g20, g21, g22, g23, g24, g25, g26, g27, g28, g29, g30, g31, g32, g33, g34, g35, g36, g37, g38, g39, g40, g41, g42, g43] M K = cond (decide (x8 ≥ 0)) (K #[g0, g1, g2, g3, .int .i64 x4, g5, g6, g7, .int .i64 x8, g9, g10, g11, g12, g13, g14, g15, g16, g17, g18, g19, g20, g21, g22, g23, g24, g25, g26, g27, .int .i64 x8, .bool (decide (x8 ≥ 0)), .bool true, .int .i64 x8, .int .i64 x4, .bool (decide (x8 < x4)), .bool (decide (x8 < x4)), g35, g36, g37, g38, g39, g40, g41, g42, g43] M) (K #[g0, g1, g2, g3, .int .i64 x4, g5, g6, g7, .int .i64 x8, g9, g10, g11, g12, g13, g14, g15, g16, g17, g18, g19, g20, g21, g22, g23, g24, g25, g26, g27, .int .i64 x8, .bool (decide (x8 ≥ 0)), .bool false, undef, undef, undef, .bool false, g35, g36, g37, g38, g39, g40, g41, g42, g43] M) := by kernel_rfl
theorem k10_46 : subC (codeOf Try.f10) [1, 1, 1, 1, 0, 1, 0, 0, 1, 0, 0, 1, 0, 0, 0, 1, 1] = .exit 2 := by kernel_rfl
theorem k10_47 : subC (codeOf Try.f10) [1, 1, 1, 1, 0, 1, 0, 0, 1, 1] = .region 7 (opsOf (subC (codeOf Try.f10) [1, 1, 1, 1, 0, 1, 0, 0, 1, 1])) false := by kernel_rfl
theorem r10_7 {x6 : Int} {g0 g1 g2 g3 g4 g5 g7 g8 g9 g10 g11 g12 g13 g14 g15 g16 g17 g18 g19 g20 g21 g22 g23 g24 g25 g26 g27 g28 g29 g30 g31 g32 g33 g34 g35 g36 g37 g38 g39 g40 g41 g42 g43 : Value} {M : Mem} {call : CallM} {K : Array Value → Mem → R} :
    opsK Try.prog (fun _ => call) (opsOf (subC (codeOf Try.f10) [1, 1, 1, 1, 0, 1, 0, 0, 1, 1])) (opsOf (subC (codeOf Try.f10) [1, 1, 1, 1, 0, 1, 0, 0, 1, 1])).toList 0 #[g0, g1, g2, g3, g4, g5, .int .i64 x6, g7, g8, g9, g10, g11, g12, g13, g14, g15, g16, g17, g18, g19, g20, g21, g22, g23, g24, g25, g26, g27, g28, g29, g30, g31, g32, g33, g34, g35, g36, g37, g38, g39, g40, g41, g42, g43] M K = K #[g0, g1, g2, g3, g4, g5, .int .i64 (IntKind.i64.wrap (x6 + 1)), g7, g8, g9, g10, g11, g12, g13, g14, g15, g16, g17, .int .i64 x6, .int .i64 (IntKind.i64.wrap (x6 + 1)), g20, g21, g22, g23, g24, g25, g26, g27, g28, g29, g30, g31, g32, g33, g34, g35, g36, g37, g38, g39, g40, g41, g42, g43] M := by kernel_rfl
theorem c10_48 {x34 : Bool} {g0 g1 g2 g3 g4 g5 g6 g7 g8 g9 g10 g11 g12 g13 g14 g15 g16 g17 g18 g19 g20 g21 g22 g23 g24 g25 g26 g27 g28 g29 g30 g31 g32 g33 g35 g36 g37 g38 g39 g40 g41 g42 g43 : Value} : subC (codeOf Try.f10) [1, 1, 1, 1, 0, 1, 0, 0, 1, 0, 0, 1, 0, 0, 1, 0, 0, 1, 1] = .cond (.tmp 34) (subC (codeOf Try.f10) [1, 1, 1, 1, 0, 1, 0, 0, 1, 0, 0, 1, 0, 0, 1, 0, 0, 1, 1, 0]) (subC (codeOf Try.f10) [1, 1, 1, 1, 0, 1, 0, 0, 1, 0, 0, 1, 0, 0, 1, 0, 0, 1, 1, 1]) ∧ okOperand (.tmp 34) = true ∧ evalT #[g0, g1, g2, g3, g4, g5, g6, g7, g8, g9, g10, g11, g12, g13, g14, g15, g16, g17, g18, g19, g20, g21, g22, g23, g24, g25, g26, g27, g28, g29, g30, g31, g32, g33, .bool x34, g35, g36, g37, g38, g39, g40, g41, g42, g43] (.tmp 34) = .bool x34 := ⟨by kernel_rfl, by kernel_rfl, by kernel_rfl⟩
theorem k10_49 : subC (codeOf Try.f10) [1, 1, 1, 1, 0, 1, 0, 0, 1, 0, 0, 1, 0, 0, 1, 0, 0, 1, 1, 0] = .region 13 (opsOf (subC (codeOf Try.f10) [1, 1, 1, 1, 0, 1, 0, 0, 1, 0, 0, 1, 0, 0, 1, 0, 0, 1, 1, 0])) false := by kernel_rfl
theorem r10_13 {x4 : Int} {Ax5 : Option Addr} {lx5 : Nat} {cx5 : Nat} {x7 : Int} {x8 : Int} {g0 g1 g2 g3 g6 g9 g10 g11 g12 g13 g14 g15 g16 g17 g18 g19 g20 g21 g22 g23 g24 g25 g26 g27 g28 g29 g30 g31 g32 g33 g34 g35 g36 g37 g38 g39 g40 g41 g42 g43 : Value} {M : Mem} {call : CallM} {K : Array Value → Mem → R} :
    opsK Try.prog (fun _ => call) (opsOf (subC (codeOf Try.f10) [1, 1, 1, 1, 0, 1, 0, 0, 1, 0, 0, 1, 0, 0, 1, 0, 0, 1, 1, 0])) (opsOf (subC (codeOf Try.f10) [1, 1, 1, 1, 0, 1, 0, 0, 1, 0, 0, 1, 0, 0, 1, 0, 0, 1, 1, 0])).toList 0 #[g0, g1, g2, g3, .int .i64 x4, .slice Ax5 lx5 cx5, g6, .int .i64 x7, .int .i64 x8, g9, g10, g11, g12, g13, g14, g15, g16, g17, g18, g19, g20, g21, g22, g23, g24, g25, g26, g27, g28, g29, g30, g31, g32, g33, g34, g35, g36, g37, g38, g39, g40, g41, g42, g43] M K = (appendP Try.prog #[22, 22] (.slice Ax5 lx5 cx5) (.slice (some ⟨2 * M.nb.size, 0, none⟩) 1 1) (M.new (.cells #[.int .i64 (IntKind.i64.wrap ((IntKind.i64.wrap (x7 * x4)) + x8))] 3))).bind fun r_1 => (asS r_1.1).bind fun s_2 => K #[g0, g1, g2, g3, .int .i64 x4, .slice s_2.1 (s_2.2.1) (s_2.2.2), g6, .int .i64 x7, .int .i64 x8, g9, g10, g11, g12, g13, g14, g15, g16, g17, g18, g19, g20, g21, g22, g23, g24, g25, g26, g27, g28, g29, g30, g31, g32, g33, g34, .slice Ax5 lx5 cx5, .int .i64 x7, .int .i64 x4, .int .i64 (IntKind.i64.wrap (x7 * x4)), .int .i64 x8, .int .i64 (IntKind.i64.wrap ((IntKind.i64.wrap (x7 * x4)) + x8)), .slice (some ⟨2 * M.nb.size, 0, none⟩) 1 1, .slice s_2.1 (s_2.2.1) (s_2.2.2), g43] r_1.2 := by kernel_rfl
theorem k10_50 : subC (codeOf Try.f10) [1, 1, 1, 1, 0, 1, 0, 0, 1, 0, 0, 1, 0, 0, 1, 0, 0, 1, 1, 1] = .skip := by kernel_rfl
theorem k10_51 : subC (codeOf Try.f10) [1, 1, 1, 1, 0, 1, 0, 0, 1, 0, 0, 1, 0, 0, 1, 1] = .region 10 (opsOf (subC (codeOf Try.f10) [1, 1, 1, 1, 0, 1, 0, 0, 1, 0, 0, 1, 0, 0, 1, 1])) false := by kernel_rfl
theorem r10_10 {x7 : Int} {g0 g1 g2 g3 g4 g5 g6 g8 g9 g10 g11 g12 g13 g14 g15 g16 g17 g18 g19 g20 g21 g22 g23 g24 g25 g26 g27 g28 g29 g30 g31 g32 g33 g34 g35 g36 g37 g38 g39 g40 g41 g42 g43 : Value} {M : Mem} {call : CallM} {K : Array Value → Mem → R} :
    opsK Try.prog (fun _ => call) (opsOf (subC (codeOf Try.f10) [1, 1, 1, 1, 0, 1, 0, 0, 1, 0, 0, 1, 0, 0, 1, 1])) (opsOf (subC (codeOf Try.f10) [1, 1, 1, 1, 0, 1, 0, 0, 1, 0, 0, 1, 0, 0, 1, 1])).toList 0 #[g0, g1, g2, g3, g4, g5, g6, .int .i64 x7, g8, g9, g10, g11, g12, g13, g14, g15, g16, g17, g18, g19, g20, g21, g22, g23, g24, g25, g26, g27, g28, g29, g30, g31, g32, g33, g34, g35, g36, g37, g38, g39, g40, g41, g42, g43] M K = K #[g0, g1, g2, g3, g4, g5, g6, .int .i64 (IntKind.i64.wrap (x7 + 1)), g8, g9, g10, g11, g12, g13, g14, g15, g16, g17, g18, g19, g20, g21, g22, .int .i64 x7, .int .i64 (IntKind.i64.wrap (x7 + 1)), g25, g26, g27, g28, g29, g30, g31, g32, g33, g34, g35, g36, g37, g38, g39, g40, g41, g42, g43] M := by kernel_rfl
noncomputable def S10_1 : List Item := [.code (subC (codeOf Try.f10) [1, 1, 1, 1, 0, 1, 0, 0]), .inLoop (subC (codeOf Try.f10) [1, 1, 1, 1, 0, 1, 0, 0]), .inBlock 0, .code (subC (codeOf Try.f10) [1, 1, 1, 1, 1])]
def A10_1 (x4 : Int) (Ax5 : Option Addr) (lx5 : Nat) (cx5 : Nat) (x6 : Int) (M : Mem) (Q : Value → Mem → Prop) : Prop := ∀ (g0 g1 g2 g3 g7 g8 g9 g10 g11 g12 g13 g14 g15 g16 g17 g18 g19 g20 g21 g22 g23 g24 g25 g26 g27 g28 g29 g30 g31 g32 g33 g34 g35 g36 g37 g38 g39 g40 g41 g42 g43 : Value), Rn Try.prog Try.f10 S10_1 #[g0, g1, g2, g3, .int .i64 x4, .slice Ax5 lx5 cx5, .int .i64 x6, g7, g8, g9, g10, g11, g12, g13, g14, g15, g16, g17, g18, g19, g20, g21, g22, g23, g24, g25, g26, g27, g28, g29, g30, g31, g32, g33, g34, g35, g36, g37, g38, g39, g40, g41, g42, g43] M Q
noncomputable def S10_2 : List Item := [.code (subC (codeOf Try.f10) [1, 1, 1, 1, 0, 1, 0, 0, 1, 0, 0, 1, 0, 0]), .inLoop (subC (codeOf Try.f10) [1, 1, 1, 1, 0, 1, 0, 0, 1, 0, 0, 1, 0, 0]), .inBlock 2, .inBlock 1, .code (subC (codeOf Try.f10) [1, 1, 1, 1, 0, 1, 0, 0, 1, 1]), .inLoop (subC (codeOf Try.f10) [1, 1, 1, 1, 0, 1, 0, 0]), .inBlock 0, .code (subC (codeOf Try.f10) [1, 1, 1, 1, 1])]
def A10_2 (x4 : Int) (Ax5 : Option Addr) (lx5 : Nat) (cx5 : Nat) (x6 : Int) (x7 : Int) (M : Mem) (Q : Value → Mem → Prop) : Prop := ∀ (g0 g1 g2 g3 g8 g9 g10 g11 g12 g13 g14 g15 g16 g17 g18 g19 g20 g21 g22 g23 g24 g25 g26 g27 g28 g29 g30 g31 g32 g33 g34 g35 g36 g37 g38 g39 g40 g41 g42 g43 : Value), Rn Try.prog Try.f10 S10_2 #[g0, g1, g2, g3, .int .i64 x4, .slice Ax5 lx5 cx5, .int .i64 x6, .int .i64 x7, g8, g9, g10, g11, g12, g13, g14, g15, g16, g17, g18, g19, g20, g21, g22, g23, g24, g25, g26, g27, g28, g29, g30, g31, g32, g33, g34, g35, g36, g37, g38, g39, g40, g41, g42, g43] M Q
noncomputable def S10_3 : List Item := [.code (subC (codeOf Try.f10) [1, 1, 1, 1, 0, 1, 0, 0, 1, 0, 0, 1, 0, 0, 1, 0, 0, 1, 1]), .inBlock 3, .code (subC (codeOf Try.f10) [1, 1, 1, 1, 0, 1, 0, 0, 1, 0, 0, 1, 0, 0, 1, 1]), .inLoop (subC (codeOf Try.f10) [1, 1, 1, 1, 0, 1, 0, 0, 1, 0, 0, 1, 0, 0]), .inBlock 2, .inBlock 1, .code (subC (codeOf Try.f10) [1, 1, 1, 1, 0, 1, 0, 0, 1, 1]), .inLoop (subC (codeOf Try.f10) [1, 1, 1, 1, 0, 1, 0, 0]), .inBlock 0, .code (subC (codeOf Try.f10) [1, 1, 1, 1, 1])]
def A10_3 (x4 : Int) (Ax5 : Option Addr) (lx5 : Nat) (cx5 : Nat) (x6 : Int) (x7 : Int) (x8 : Int) (x34 : Bool) (M : Mem) (Q : Value → Mem → Prop) : Prop := ∀ (g0 g1 g2 g3 g9 g10 g11 g12 g13 g14 g15 g16 g17 g18 g19 g20 g21 g22 g23 g24 g25 g26 g27 g28 g29 g30 g31 g32 g33 g35 g36 g37 g38 g39 g40 g41 g42 g43 : Value), Rn Try.prog Try.f10 S10_3 #[g0, g1, g2, g3, .int .i64 x4, .slice Ax5 lx5 cx5, .int .i64 x6, .int .i64 x7, .int .i64 x8, g9, g10, g11, g12, g13, g14, g15, g16, g17, g18, g19, g20, g21, g22, g23, g24, g25, g26, g27, g28, g29, g30, g31, g32, g33, .bool x34, g35, g36, g37, g38, g39, g40, g41, g42, g43] M Q
noncomputable def S10_4 : List Item := [.code (subC (codeOf Try.f10) [1, 1, 1, 1, 0, 1, 0, 0, 1, 0, 0, 1, 0, 0, 1, 1]), .inLoop (subC (codeOf Try.f10) [1, 1, 1, 1, 0, 1, 0, 0, 1, 0, 0, 1, 0, 0]), .inBlock 2, .inBlock 1, .code (subC (codeOf Try.f10) [1, 1, 1, 1, 0, 1, 0, 0, 1, 1]), .inLoop (subC (codeOf Try.f10) [1, 1, 1, 1, 0, 1, 0, 0]), .inBlock 0, .code (subC (codeOf Try.f10) [1, 1, 1, 1, 1])]
def A10_4 (x4 : Int) (Ax5 : Option Addr) (lx5 : Nat) (cx5 : Nat) (x6 : Int) (x7 : Int) (M : Mem) (Q : Value → Mem → Prop) : Prop := ∀ (g0 g1 g2 g3 g8 g9 g10 g11 g12 g13 g14 g15 g16 g17 g18 g19 g20 g21 g22 g23 g24 g25 g26 g27 g28 g29 g30 g31 g32 g33 g34 g35 g36 g37 g38 g39 g40 g41 g42 g43 : Value), Rn Try.prog Try.f10 S10_4 #[g0, g1, g2, g3, .int .i64 x4, .slice Ax5 lx5 cx5, .int .i64 x6, .int .i64 x7, g8, g9, g10, g11, g12, g13, g14, g15, g16, g17, g18, g19, g20, g21, g22, g23, g24, g25, g26, g27, g28, g29, g30, g31, g32, g33, g34, g35, g36, g37, g38, g39, g40, g41, g42, g43] M Q
theorem w10_0 {x0 : Int} {M : Mem} {Q : Value → Mem → Prop} (H :
    Cn Try.prog 22 #[.int .i64 x0] M fun v1' N1' =>
     ∃ x2', asI .i64 v1' = some x2' ∧
     ((x2' = 0 →
      Q (.tuple #[.slice none 0 0, .int .i64 2]) N1') ∧
      (x2' ≠ 0 →
      A10_1 x2' none 0 0 0 N1' Q))) :
    Cn Try.prog 10 #[.int .i64 x0] M Q := by
  refine Cn.of b10 d10 t10 ?_
  refine Rn.seq k10_0 ?_
  refine Rn.region k10_1 (fun call K => r10_0) ?_
  refine Rch.leaf ?_
  refine Rn.seq k10_2 ?_
  refine Rn.region k10_3 (fun call K => r10_1) ?_
  refine Rch.call H (fun v1' N1' H => ?_)
  obtain ⟨x2', hx2', H⟩ := H
  refine Rch.bind hx2' ?_
  refine Rch.leaf ?_
  refine Rn.seq k10_4 ?_
  refine Rn.seq k10_5 ?_
  refine Rn.region k10_6 (fun call K => r10_2) ?_
  refine Rch.leaf ?_
  refine Rn.cnd c10_7 (fun h => ?_) (fun h => ?_)
  · replace H := H.1 (eq_of_beq h)
    refine Rn.seq k10_8 ?_
    refine Rn.region k10_9 (fun call K => r10_3) ?_
    refine Rch.leaf ?_
    exact Rn.ret k10_10 e10 H
  · replace H := H.2 (ne_of_beq_false h)
    refine Rn.skip k10_12 ?_
    refine Rn.seq k10_13 ?_
    refine Rn.region k10_14 (fun call K => r10_4) ?_
    refine Rch.leaf ?_
    refine Rn.seq k10_15 ?_
    refine Rn.seq k10_16 ?_
    refine Rn.region k10_17 (fun call K => r10_5) ?_
    refine Rch.leaf ?_
    refine Rn.block k10_18 ?_
    refine Rn.loop k10_19 ?_
    exact H _ _ _ _ _ _ _ _ _ _ _ _ _ _ _ _ _ _ _ _ _ _ _ _ _ _ _ _ _ _ _ _ _ _ _ _ _ _ _ _ _

theorem w10_1 {x4 : Int} {Ax5 : Option Addr} {lx5 : Nat} {cx5 : Nat} {x6 : Int} {M : Mem} {Q : Value → Mem → Prop} (H :
    ((x6 ≤ (IntKind.i64.wrap ((IntKind.i64.wrap (2 * x4)) - 2)) →
     A10_2 x4 Ax5 lx5 cx5 x6 0 M Q) ∧
     (¬ (x6 ≤ (IntKind.i64.wrap ((IntKind.i64.wrap (2 * x4)) - 2))) →
     Q (.tuple #[.slice Ax5 lx5 cx5, .int .i64 0]) M))) :
    A10_1 x4 Ax5 lx5 cx5 x6 M Q := by
  intro g0 g1 g2 g3 g7 g8 g9 g10 g11 g12 g13 g14 g15 g16 g17 g18 g19 g20 g21 g22 g23 g24 g25 g26 g27 g28 g29 g30 g31 g32 g33 g34 g35 g36 g37 g38 g39 g40 g41 g42 g43
  refine Rn.seq k10_20 ?_
  refine Rn.seq k10_21 ?_
  refine Rn.region k10_22 (fun call K => r10_6) ?_
  refine Rch.leaf ?_
  refine Rn.cnd c10_23 (fun h => ?_) (fun h => ?_)
  · replace H := H.1 (of_decide_eq_true h)
    refine Rn.skip k10_24 ?_
    refine Rn.seq k10_25 ?_
    refine Rn.block k10_26 ?_
    refine Rn.seq k10_27 ?_
    refine Rn.region k10_28 (fun call K => r10_8) ?_
    refine Rch.leaf ?_
    refine Rn.block k10_29 ?_
    refine Rn.loop k10_30 ?_
    exact H _ _ _ _ _ _ _ _ _ _ _ _ _ _ _ _ _ _ _ _ _ _ _ _ _ _ _ _ _ _ _ _ _ _ _ _ _ _ _ _
  · replace H := H.2 (of_decide_eq_false h)
    refine Rn.exit k10_31 rfl ?_
    refine Rn.seq k10_32 ?_
    refine Rn.region k10_33 (fun call K => r10_14) ?_
    refine Rch.leaf ?_
    exact Rn.ret k10_34 e10 H

theorem w10_2 {x4 : Int} {Ax5 : Option Addr} {lx5 : Nat} {cx5 : Nat} {x6 : Int} {x7 : Int} {M : Mem} {Q : Value → Mem → Prop} (H :
    ((x7 < x4 →
     (((IntKind.i64.wrap (x6 - x7)) ≥ 0 →
      A10_3 x4 Ax5 lx5 cx5 x6 x7 (IntKind.i64.wrap (x6 - x7)) (decide ((IntKind.i64.wrap (x6 - x7)) < x4)) M Q) ∧
      (¬ ((IntKind.i64.wrap (x6 - x7)) ≥ 0) →
      A10_3 x4 Ax5 lx5 cx5 x6 x7 (IntKind.i64.wrap (x6 - x7)) false M Q))) ∧
     (¬ (x7 < x4) →
     A10_1 x4 Ax5 lx5 cx5 (IntKind.i64.wrap (x6 + 1)) M Q))) :
    A10_2 x4 Ax5 lx5 cx5 x6 x7 M Q := by
  intro g0 g1 g2 g3 g8 g9 g10 g11 g12 g13 g14 g15 g16 g17 g18 g19 g20 g21 g22 g23 g24 g25 g26 g27 g28 g29 g30 g31 g32 g33 g34 g35 g36 g37 g38 g39 g40 g41 g42 g43
  refine Rn.seq k10_35 ?_
  refine Rn.seq k10_36 ?_
  refine Rn.region k10_37 (fun call K => r10_9) ?_
  refine Rch.leaf ?_
  refine Rn.cnd c10_38 (fun h => ?_) (fun h => ?_)
  · replace H := H.1 (of_decide_eq_true h)
    refine Rn.skip k10_39 ?_
    refine Rn.seq k10_40 ?_
    refine Rn.block k10_41 ?_
    refine Rn.seq k10_42 ?_
    refine Rn.region k10_43 (fun call K => r10_11) ?_
    refine Rch.leaf ?_
    refine Rn.seq k10_44 ?_
    refine Rn.region k10_45 (fun call K => r10_12) ?_
    refine Rch.cB (fun h => ?_) (fun h => ?_)
    · replace H := H.1 (of_decide_eq_true h)
      refine Rch.leaf ?_
      exact H _ _ _ _ _ _ _ _ _ _ _ _ _ _ _ _ _ _ _ _ _ _ _ _ _ _ _ _ _ _ _ _ _ _ _ _ _ _
    · replace H := H.2 (of_decide_eq_false h)
      refine Rch.leaf ?_
      exact H _ _ _ _ _ _ _ _ _ _ _ _ _ _ _ _ _ _ _ _ _ _ _ _ _ _ _ _ _ _ _ _ _ _ _ _ _ _
  · replace H := H.2 (of_decide_eq_false h)
    refine Rn.exit k10_46 rfl ?_
    refine Rn.blk ?_
    refine Rn.region k10_47 (fun call K => r10_7) ?_
    refine Rch.leaf ?_
    refine Rn.lp ?_
    exact H _ _ _ _ _ _ _ _ _ _ _ _ _ _ _ _ _ _ _ _ _ _ _ _ _ _ _ _ _ _ _ _ _ _ _ _ _ _ _ _ _

theorem w10_3 {x4 : Int} {Ax5 : Option Addr} {lx5 : Nat} {cx5 : Nat} {x6 : Int} {x7 : Int} {x8 : Int} {x34 : Bool} {M : Mem} {Q : Value → Mem → Prop} (H :
    ((x34 = true →
     ∃ r3', appendP Try.prog #[22, 22] (.slice Ax5 lx5 cx5) (.slice (some ⟨2 * M.nb.size, 0, none⟩) 1 1) (M.new (.cells #[.int .i64 (IntKind.i64.wrap ((IntKind.i64.wrap (x7 * x4)) + x8))] 3)) = some r3' ∧
     ∃ s4', asS r3'.1 = some s4' ∧
     A10_4 x4 s4'.1 s4'.2.1 s4'.2.2 x6 x7 r3'.2 Q) ∧
     (x34 = false →
     A10_4 x4 Ax5 lx5 cx5 x6 x7 M Q))) :
    A10_3 x4 Ax5 lx5 cx5 x6 x7 x8 x34 M Q := by
  intro g0 g1 g2 g3 g9 g10 g11 g12 g13 g14 g15 g16 g17 g18 g19 g20 g21 g22 g23 g24 g25 g26 g27 g28 g29 g30 g31 g32 g33 g35 g36 g37 g38 g39 g40 g41 g42 g43
  refine Rn.cnd c10_48 (fun h => ?_) (fun h => ?_)
  · replace H := H.1 (h)
    refine Rn.region k10_49 (fun call K => r10_13) ?_
    obtain ⟨r3', hr3', H⟩ := H
    refine Rch.bind hr3' ?_
    obtain ⟨s4', hs4', H⟩ := H
    refine Rch.bind hs4' ?_
    refine Rch.leaf ?_
    refine Rn.blk ?_
    exact H _ _ _ _ _ _ _ _ _ _ _ _ _ _ _ _ _ _ _ _ _ _ _ _ _ _ _ _ _ _ _ _ _ _ _ _ _ _ _ _
  · replace H := H.2 (h)
    refine Rn.skip k10_50 ?_
    refine Rn.blk ?_
    exact H _ _ _ _ _ _ _ _ _ _ _ _ _ _ _ _ _ _ _ _ _ _ _ _ _ _ _ _ _ _ _ _ _ _ _ _ _ _ _ _

theorem w10_4 {x4 : Int} {Ax5 : Option Addr} {lx5 : Nat} {cx5 : Nat} {x6 : Int} {x7 : Int} {M : Mem} {Q : Value → Mem → Prop} (H :
    A10_2 x4 Ax5 lx5 cx5 x6 (IntKind.i64.wrap (x7 + 1)) M Q) :
    A10_4 x4 Ax5 lx5 cx5 x6 x7 M Q := by
  intro g0 g1 g2 g3 g8 g9 g10 g11 g12 g13 g14 g15 g16 g17 g18 g19 g20 g21 g22 g23 g24 g25 g26 g27 g28 g29 g30 g31 g32 g33 g34 g35 g36 g37 g38 g39 g40 g41 g42 g43
  refine Rn.region k10_51 (fun call K => r10_10) ?_
  refine Rch.leaf ?_
  refine Rn.lp ?_
  exact H _ _ _ _ _ _ _ _ _ _ _ _ _ _ _ _ _ _ _ _ _ _ _ _ _ _ _ _ _ _ _ _ _ _ _ _ _ _ _ _


/-! ### zoetrope/zoetroperef00.EqInts: function 11 -/
theorem b11 : Try.prog.funcs[11]? = some Try.f11 := by kernel_rfl
theorem d11 : Try.f11.body = some (subC (codeOf Try.f11) []) := by kernel_rfl
theorem t11 {Ax0 : Option Addr} {lx0 : Nat} {cx0 : Nat} {Ax1 : Option Addr} {lx1 : Nat} {cx1 : Nat} : #[.slice Ax0 lx0 cx0, .slice Ax1 lx1 cx1] ++ Array.replicate (Try.f11.ntmps - (#[.slice Ax0 lx0 cx0, .slice Ax1 lx1 cx1] : Array Value).size) undef = #[.slice Ax0 lx0 cx0, .slice Ax1 lx1 cx1, undef, undef, undef, undef, undef, undef, undef, undef, undef, undef, undef, undef, undef, undef, undef, undef, undef, undef, undef, undef, undef, undef, undef, undef] := by kernel_rfl
theorem k11_0 : subC (codeOf Try.f11) [] = .seq (subC (codeOf Try.f11) [0]) (subC (codeOf Try.f11) [1]) := by kernel_rfl
theorem k11_1 : subC (codeOf Try.f11) [0] = .region 0 (opsOf (subC (codeOf Try.f11) [0])) false := by kernel_rfl
theorem r11_0 {g0 g1 g2 g3 g4 g5 g6 g7 g8 g9 g10 g11 g12 g13 g14 g15 g16 g17 g18 g19 g20 g21 g22 g23 g24 g25 : Value} {M : Mem} {call : CallM} {K : Array Value → Mem → R} :
    opsK Try.prog (fun _ => call) (opsOf (subC (codeOf Try.f11) [0])) (opsOf (subC (codeOf Try.f11) [0])).toList 0 #[g0, g1, g2, g3, g4, g5, g6, g7, g8, g9, g10, g11, g12, g13, g14, g15, g16, g17, g18, g19, g20, g21, g22, g23, g24, g25] M K = K #[g0, g1, g2, g3, .bool false, g5, g6, g7, g8, g9, g10, g11, g12, g13, g14, g15, g16, g17, g18, g19, g20, g21, g22, g23, g24, g25] M := by kernel_rfl
theorem k11_2 : subC (codeOf Try.f11) [1] = .seq (subC (codeOf Try.f11) [1, 0]) (subC (codeOf Try.f11) [1, 1]) := by kernel_rfl
theorem k11_3 : subC (codeOf Try.f11) [1, 0] = .seq (subC (codeOf Try.f11) [1, 0, 0]) (subC (codeOf Try.f11) [1, 0, 1]) := by kernel_rfl
theorem k11_4 : subC (codeOf Try.f11) [1, 0, 0] = .region 1 (opsOf (subC (codeOf Try.f11) [1, 0, 0])) false := by kernel_rfl
theorem r11_1 {Ax0 : Option Addr} {lx0 : Nat} {cx0 : Nat} {Ax1 : Option Addr} {lx1 : Nat} {cx1 : Nat} {g2 g3 g4 g5 g6 g7 g8 g9 g10 g11 g12 g13 g14 g15 g16 g17 g18 g19 g20 g21 g22 g23 g24 g25 : Value} {M : Mem} {call : CallM} {K : Array Value → Mem → R} :
    opsK Try.prog (fun _ => call) (opsOf (subC (codeOf Try.f11) [1, 0, 0])) (opsOf (subC (codeOf Try.f11) [1, 0, 0])).toList 0 #[.slice Ax0 lx0 cx0, .slice Ax1 lx1 cx1, g2, g3, g4, g5, g6, g7, g8, g9, g10, g11, g12, g13, g14, g15, g16, g17, g18, g19, g20, g21, g22, g23, g24, g25] M K = K #[.slice Ax0 lx0 cx0, .slice Ax1 lx1 cx1, g2, g3, g4, g5, .slice Ax0 lx0 cx0, .int .i64 ((lx0 : Int)), .slice Ax1 lx1 cx1, .int .i64 ((lx1 : Int)), .bool (((lx0 : Int)) != ((lx1 : Int))), g11, g12, g13, g14, g15, g16, g17, g18, g19, g20, g21, g22, g23, g24, g25] M := by kernel_rfl
theorem c11_5 {x10 : Bool} {g0 g1 g2 g3 g4 g5 g6 g7 g8 g9 g11 g12 g13 g14 g15 g16 g17 g18 g19 g20 g21 g22 g23 g24 g25 : Value} : subC (codeOf Try.f11) [1, 0, 1] = .cond (.tmp 10) (subC (codeOf Try.f11) [1, 0, 1, 0]) (subC (codeOf Try.f11) [1, 0, 1, 1]) ∧ okOperand (.tmp 10) = true ∧ evalT #[g0, g1, g2, g3, g4, g5, g6, g7, g8, g9, .bool x10, g11, g12, g13, g14, g15, g16, g17, g18, g19, g20, g21, g22, g23, g24, g25] (.tmp 10) = .bool x10 := ⟨by kernel_rfl, by kernel_rfl, by kernel_rfl⟩
theorem k11_6 : subC (codeOf Try.f11) [1, 0, 1, 0] = .seq (subC (codeOf Try.f11) [1, 0, 1, 0, 0]) (subC (codeOf Try.f11) [1, 0, 1, 0, 1]) := by kernel_rfl
theorem k11_7 : subC (codeOf Try.f11) [1, 0, 1, 0, 0] = .region 2 (opsOf (subC (codeOf Try.f11) [1, 0, 1, 0, 0])) false := by kernel_rfl
theorem r11_2 {g0 g1 g2 g3 g4 g5 g6 g7 g8 g9 g10 g11 g12 g13 g14 g15 g16 g17 g18 g19 g20 g21 g22 g23 g24 g25 : Value} {M : Mem} {call : CallM} {K : Array Value → Mem → R} :
    opsK Try.prog (fun _ => call) (opsOf (subC (codeOf Try.f11) [1, 0, 1, 0, 0])) (opsOf (subC (codeOf Try.f11) [1, 0, 1, 0, 0])).toList 0 #[g0, g1, g2, g3, g4, g5, g6, g7, g8, g9, g10, g11, g12, g13, g14, g15, g16, g17, g18, g19, g20, g21, g22, g23, g24, g25] M K = K #[g0, g1, g2, g3, .bool false, g5, g6, g7, g8, g9, g10, g11, g12, g13, g14, g15, g16, g17, g18, g19, g20, g21, g22, g23, g24, g25] M := by kernel_rfl
theorem k11_8 : subC (codeOf Try.f11) [1, 0, 1, 0, 1] = .ret := by kernel_rfl
theorem e11 {g0 g1 g2 g3 g4 g5 g6 g7 g8 g9 g10 g11 g12 g13 g14 g15 g16 g17 g18 g19 g20 g21 g22 g23 g24 g25 : Value} {M : Mem} : finish Try.prog Try.f11 #[g0, g1, g2, g3, g4, g5, g6, g7, g8, g9, g10, g11, g12, g13, g14, g15, g16, g17, g18, g19, g20, g21, g22, g23, g24, g25] M = some (g4, M) := by kernel_rfl
theorem k11_10 : subC (codeOf Try.f11) [1, 0, 1, 1] = .skip := by kernel_rfl
theorem k11_11 : subC (codeOf Try.f11) [1, 1] = .seq (subC (codeOf Try.f11) [1, 1, 0]) (subC (codeOf Try.f11) [1, 1, 1]) := by kernel_rfl
theorem k11_12 : subC (codeOf Try.f11) [1, 1, 0] = .seq (subC (codeOf Try.f11) [1, 1, 0, 0]) (subC (codeOf Try.f11) [1, 1, 0, 1]) := by kernel_rfl
theorem k11_13 : subC (codeOf Try.f11) [1, 1, 0, 0] = .region 3 (opsOf (subC (codeOf Try.f11) [1, 1, 0, 0])) false := by kernel_rfl
theorem r11_3 {g0 g1 g2 g3 g4 g5 g6 g7 g8 g9 g10 g11 g12 g13 g14 g15 g16 g17 g18 g19 g20 g21 g22 g23 g24 g25 : Value} {M : Mem} {call : CallM} {K : Array Value → Mem → R} :
    opsK Try.prog (fun _ => call) (opsOf (subC (codeOf Try.f11) [1, 1, 0, 0])) (opsOf (subC (codeOf Try.f11) [1, 1, 0, 0])).toList 0 #[g0, g1, g2, g3, g4, g5, g6, g7, g8, g9, g10, g11, g12, g13, g14, g15, g16, g17, g18, g19, g20, g21, g22, g23, g24, g25] M K = K #[g0, g1, g2, g3, g4, .int .i64 0, g6, g7, g8, g9, g10, g11, g12, g13, g14, g15, g16, g17, g18, g19, g20, g21, g22, g23, g24, g25] M := by kernel_rfl
theorem k11_14 : subC (codeOf Try.f11) [1, 1, 0, 1] = .block 0 (subC (codeOf Try.f11) [1, 1, 0, 1, 0]) := by kernel_rfl
theorem k11_15 : subC (codeOf Try.f11) [1, 1, 0, 1, 0] = .loop (subC (codeOf Try.f11) [1, 1, 0, 1, 0, 0]) := by kernel_rfl
theorem k11_16 : subC (codeOf Try.f11) [1, 1, 0, 1, 0, 0] = .seq (subC (codeOf Try.f11) [1, 1, 0, 1, 0, 0, 0]) (subC (codeOf Try.f11) [1, 1, 0, 1, 0, 0, 1]) := by kernel_rfl
theorem k11_17 : subC (codeOf Try.f11) [1, 1, 0, 1, 0, 0, 0] = .seq (subC (codeOf Try.f11) [1, 1, 0, 1, 0, 0, 0, 0]) (subC (codeOf Try.f11) [1, 1, 0, 1, 0, 0, 0, 1]) := by kernel_rfl
theorem k11_18 : subC (codeOf Try.f11) [1, 1, 0, 1, 0, 0, 0, 0] = .region 4 (opsOf (subC (codeOf Try.f11) [1, 1, 0, 1, 0, 0, 0, 0])) false := by kernel_rfl
theorem r11_4 {Ax0 : Option Addr} {lx0 : Nat} {cx0 : Nat} {x5 : Int} {g1 g2 g3 g4 g6 g7 g8 g9 g10 g11 g12 g13 g14 g15 g16 g17 g18 g19 g20 g21 g22 g23 g24 g25 : Value} {M : Mem} {call : CallM} {K : Array Value → Mem → R} :
    opsK Try.prog (fun _ => call) (opsOf (subC (codeOf Try.f11) [1, 1, 0, 1, 0, 0, 0, 0])) (opsOf (subC (codeOf Try.f11) [1, 1, 0, 1, 0, 0, 0, 0])).toList 0 #[.slice Ax0 lx0 cx0, g1, g2, g3, g4, .int .i64 x5, g6, g7, g8, g9, g10, g11, g12, g13, g14, g15, g16, g17, g18, g19, g20, g21, g22, g23, g24, g25] M K = K #[.slice Ax0 lx0 cx0, g1, g2, g3, g4, .int .i64 x5, g6, g7, g8, g9, g10, .int .i64 x5, .slice Ax0 lx0 cx0, .int .i64 ((lx0 : Int)), .bool (decide (x5 < ((lx0 : Int)))), g15, g16, g17, g18, g19, g20, g21, g22, g23, g24, g25] M := by kernel_rfl
theorem c11_19 {x14 : Bool} {g0 g1 g2 g3 g4 g5 g6 g7 g8 g9 g10 g11 g12 g13 g15 g16 g17 g18 g19 g20 g21 g22 g23 g24 g25 : Value} : subC (codeOf Try.f11) [1, 1, 0, 1, 0, 0, 0, 1] = .cond (.tmp 14) (subC (codeOf Try.f11) [1, 1, 0, 1, 0, 0, 0, 1, 0]) (subC (codeOf Try.f11) [1, 1, 0, 1, 0, 0, 0, 1, 1]) ∧ okOperand (.tmp 14) = true ∧ evalT #[g0, g1, g2, g3, g4, g5, g6, g7, g8, g9, g10, g11, g12, g13, .bool x14, g15, g16, g17, g18, g19, g20, g21, g22, g23, g24, g25] (.tmp 14) = .bool x14 := ⟨by kernel_rfl, by kernel_rfl, by kernel_rfl⟩
theorem k11_20 : subC (codeOf Try.f11) [1, 1, 0, 1, 0, 0, 0, 1, 0] = .skip := by kernel_rfl
theorem k11_21 : subC (codeOf Try.f11) [1, 1, 0, 1, 0, 0, 1] = .seq (subC (codeOf Try.f11) [1, 1, 0, 1, 0, 0, 1, 0]) (subC (codeOf Try.f11) [1, 1, 0, 1, 0, 0, 1, 1]) := by kernel_rfl
theorem k11_22 : subC (codeOf Try.f11) [1, 1, 0, 1, 0, 0, 1, 0] = .block 1 (subC (codeOf Try.f11) [1, 1, 0, 1, 0, 0, 1, 0, 0]) := by kernel_rfl
theorem k11_23 : subC (codeOf Try.f11) [1, 1, 0, 1, 0, 0, 1, 0, 0] = .seq (subC (codeOf Try.f11) [1, 1, 0, 1, 0, 0, 1, 0, 0, 0]) (subC (codeOf Try.f11) [1, 1, 0, 1, 0, 0, 1, 0, 0, 1]) := by kernel_rfl
theorem k11_24 : subC (codeOf Try.f11) [1, 1, 0, 1, 0, 0, 1, 0, 0, 0] = .region 6 (opsOf (subC (codeOf Try.f11) [1, 1, 0, 1, 0, 0, 1, 0, 0, 0])) true ∧ drawOk (opsOf (subC (codeOf Try.f11) [1, 1, 0, 1, 0, 0, 1, 0, 0, 0])) = true := ⟨by kernel_rfl, by kernel_rfl⟩
theorem r11_6 {Ax0 : Option Addr} {lx0 : Nat} {cx0 : Nat} {Ax1 : Option Addr} {lx1 : Nat} {cx1 : Nat} {x5 : Int} {g2 g3 g4 g6 g7 g8 g9 g10 g11 g12 g13 g14 g15 g16 g17 g18 g19 g20 g21 g22 g23 g24 g25 : Value} {M : Mem} {call : CallM} {K : Array Value → Mem → R} :
    opsK Try.prog (callAt call (opsOf (subC (codeOf Try.f11) [1, 1, 0, 1, 0, 0, 1, 0, 0, 0]))) (opsOf (subC (codeOf Try.f11) [1, 1, 0, 1, 0, 0, 1, 0, 0, 0])) (opsOf (subC (codeOf Try.f11) [1, 1, 0, 1, 0, 0, 1, 0, 0, 0])).toList 0 #[.slice Ax0 lx0 cx0, .slice Ax1 lx1 cx1, g2, g3, g4, .int .i64 x5, g6, g7, g8, g9, g10, g11, g12, g13, g14, g15, g16, g17, g18, g19, g20, g21, g22, g23, g24, g25] M K = (indexAddrP Try.prog 22 (.slice Ax0 lx0 cx0) (.int .i64 x5)).bind fun v_1 => (asP v_1).bind fun p_2 => (p_2).bind fun a_3 => (M.intAt .i64 a_3.block a_3.off).bind fun x_4 => (indexAddrP Try.prog 22 (.slice Ax1 lx1 cx1) (.int .i64 x5)).bind fun v_5 => (asP v_5).bind fun p_6 => (p_6).bind fun a_7 => (M.intAt .i64 a_7.block a_7.off).bind fun x_8 => K #[.slice Ax0 lx0 cx0, .slice Ax1 lx1 cx1, g2, g3, g4, .int .i64 x5, g6, g7, g8, g9, g10, g11, g12, g13, g14, g15, g16, .slice Ax0 lx0 cx0, .int .i64 x5, .pointer p_2, .int .i64 x_4, .slice Ax1 lx1 cx1, .int .i64 x5, .pointer p_6, .int .i64 x_8, .bool (x_4 != x_8)] M := by kernel_rfl
theorem c11_25 {x25 : Bool} {g0 g1 g2 g3 g4 g5 g6 g7 g8 g9 g10 g11 g12 g13 g14 g15 g16 g17 g18 g19 g20 g21 g22 g23 g24 : Value} : subC (codeOf Try.f11) [1, 1, 0, 1, 0, 0, 1, 0, 0, 1] = .cond (.tmp 25) (subC (codeOf Try.f11) [1, 1, 0, 1, 0, 0, 1, 0, 0, 1, 0]) (subC (codeOf Try.f11) [1, 1, 0, 1, 0, 0, 1, 0, 0, 1, 1]) ∧ okOperand (.tmp 25) = true ∧ evalT #[g0, g1, g2, g3, g4, g5, g6, g7, g8, g9, g10, g11, g12, g13, g14, g15, g16, g17, g18, g19, g20, g21, g22, g23, g24, .bool x25] (.tmp 25) = .bool x25 := ⟨by kernel_rfl, by kernel_rfl, by kernel_rfl⟩
theorem k11_26 : subC (codeOf Try.f11) [1, 1, 0, 1, 0, 0, 1, 0, 0, 1, 0] = .seq (subC (codeOf Try.f11) [1, 1, 0, 1, 0, 0, 1, 0, 0, 1, 0, 0]) (subC (codeOf Try.f11) [1, 1, 0, 1, 0, 0, 1, 0, 0, 1, 0, 1]) := by kernel_rfl
theorem k11_27 : subC (codeOf Try.f11) [1, 1, 0, 1, 0, 0, 1, 0, 0, 1, 0, 0] = .region 7 (opsOf (subC (codeOf Try.f11) [1, 1, 0, 1, 0, 0, 1, 0, 0, 1, 0, 0])) false := by kernel_rfl
theorem r11_7 {g0 g1 g2 g3 g4 g5 g6 g7 g8 g9 g10 g11 g12 g13 g14 g15 g16 g17 g18 g19 g20 g21 g22 g23 g24 g25 : Value} {M : Mem} {call : CallM} {K : Array Value → Mem → R} :
    opsK Try.prog (fun _ => call) (opsOf (subC (codeOf Try.f11) [1, 1, 0, 1, 0, 0, 1, 0, 0, 1, 0, 0])) (opsOf (subC (codeOf Try.f11) [1, 1, 0, 1, 0, 0, 1, 0, 0, 1, 0, 0])).toList 0 #[g0, g1, g2, g3, g4, g5, g6, g7, g8, g9, g10, g11, g12, g13, g14, g15, g16, g17, g18, g19, g20, g21, g22, g23, g24, g25] M K = K #[g0, g1, g2, g3, .bool false, g5, g6, g7, g8, g9, g10, g11, g12, g13, g14, g15, g16, g17, g18, g19, g20, g21, g22, g23, g24, g25] M := by kernel_rfl
theorem k11_28 : subC (codeOf Try.f11) [1, 1, 0, 1, 0, 0, 1, 0, 0, 1, 0, 1] = .ret := by kernel_rfl
theorem k11_29 : subC (codeOf Try.f11) [1, 1, 0, 1, 0, 0, 1, 0, 0, 1, 1] = .skip := by kernel_rfl
theorem k11_30 : subC (codeOf Try.f11) [1, 1, 0, 1, 0, 0, 1, 1] = .region 5 (opsOf (subC (codeOf Try.f11) [1, 1, 0, 1, 0, 0, 1, 1])) false := by kernel_rfl
theorem r11_5 {x5 : Int} {g0 g1 g2 g3 g4 g6 g7 g8 g9 g10 g11 g12 g13 g14 g15 g16 g17 g18 g19 g20 g21 g22 g23 g24 g25 : Value} {M : Mem} {call : CallM} {K : Array Value → Mem → R} :
    opsK Try.prog (fun _ => call) (opsOf (subC (codeOf Try.f11) [1, 1, 0, 1, 0, 0, 1, 1])) (opsOf (subC (codeOf Try.f11) [1, 1, 0, 1, 0, 0, 1, 1])).toList 0 #[g0, g1, g2, g3, g4, .int .i64 x5, g6, g7, g8, g9, g10, g11, g12, g13, g14, g15, g16, g17, g18, g19, g20, g21, g22, g23, g24, g25] M K = K #[g0, g1, g2, g3, g4, .int .i64 (IntKind.i64.wrap (x5 + 1)), g6, g7, g8, g9, g10, g11, g12, g13, g14, .int .i64 x5, .int .i64 (IntKind.i64.wrap (x5 + 1)), g17, g18, g19, g20, g21, g22, g23, g24, g25] M := by kernel_rfl
theorem k11_31 : subC (codeOf Try.f11) [1, 1, 0, 1, 0, 0, 0, 1, 1] = .exit 0 := by kernel_rfl
theorem k11_32 : subC (codeOf Try.f11) [1, 1, 1] = .seq (subC (codeOf Try.f11) [1, 1, 1, 0]) (subC (codeOf Try.f11) [1, 1, 1, 1]) := by kernel_rfl
theorem k11_33 : subC (codeOf Try.f11) [1, 1, 1, 0] = .region 8 (opsOf (subC (codeOf Try.f11) [1, 1, 1, 0])) false := by kernel_rfl
theorem r11_8 {g0 g1 g2 g3 g4 g5 g6 g7 g8 g9 g10 g11 g12 g13 g14 g15 g16 g17 g18 g19 g20 g21 g22 g23 g24 g25 : Value} {M : Mem} {call : CallM} {K : Array Value → Mem → R} :
    opsK Try.prog (fun _ => call) (opsOf (subC (codeOf Try.f11) [1, 1, 1, 0])) (opsOf (subC (codeOf Try.f11) [1, 1, 1, 0])).toList 0 #[g0, g1, g2, g3, g4, g5, g6, g7, g8, g9, g10, g11, g12, g13, g14, g15, g16, g17, g18, g19, g20, g21, g22, g23, g24, g25] M K = K #[g0, g1, g2, g3, .bool true, g5, g6, g7, g8, g9, g10, g11, g12, g13, g14, g15, g16, g17, g18, g19, g20, g21, g22, g23, g24, g25] M := by kernel_rfl
theorem k11_34 : subC (codeOf Try.f11) [1, 1, 1, 1] = .ret := by kernel_rfl
noncomputable def S11_1 : List Item := [.code (subC (codeOf Try.f11) [1, 1, 0, 1, 0, 0]), .inLoop (subC (codeOf Try.f11) [1, 1, 0, 1, 0, 0]), .inBlock 0, .code (subC (codeOf Try.f11) [1, 1, 1])]
def A11_1 (Ax0 : Option Addr) (lx0 : Nat) (cx0 : Nat) (Ax1 : Option Addr) (lx1 : Nat) (cx1 : Nat) (x5 : Int) (M : Mem) (Q : Value → Mem → Prop) : Prop := ∀ (g2 g3 g4 g6 g7 g8 g9 g10 g11 g12 g13 g14 g15 g16 g17 g18 g19 g20 g21 g22 g23 g24 g25 : Value), Rn Try.prog Try.f11 S11_1 #[.slice Ax0 lx0 cx0, .slice Ax1 lx1 cx1, g2, g3, g4, .int .i64 x5, g6, g7, g8, g9, g10, g11, g12, g13, g14, g15, g16, g17, g18, g19, g20, g21, g22, g23, g24, g25] M Q
theorem w11_0 {Ax0 : Option Addr} {lx0 : Nat} {cx0 : Nat} {Ax1 : Option Addr} {lx1 : Nat} {cx1 : Nat} {M : Mem} {Q : Value → Mem → Prop} (H :
    ((((lx0 : Int)) ≠ ((lx1 : Int)) →
     Q (.bool false) M) ∧
     (((lx0 : Int)) = ((lx1 : Int)) →
     A11_1 Ax0 lx0 cx0 Ax1 lx1 cx1 0 M Q))) :
    Cn Try.prog 11 #[.slice Ax0 lx0 cx0, .slice Ax1 lx1 cx1] M Q := by
  refine Cn.of b11 d11 t11 ?_
  refine Rn.seq k11_0 ?_
  refine Rn.region k11_1 (fun call K => r11_0) ?_
  refine Rch.leaf ?_
  refine Rn.seq k11_2 ?_
  refine Rn.seq k11_3 ?_
  refine Rn.region k11_4 (fun call K => r11_1) ?_
  refine Rch.leaf ?_
  refine Rn.cnd c11_5 (fun h => ?_) (fun h => ?_)
  · replace H := H.1 (ne_of_bneT h)
    refine Rn.seq k11_6 ?_
    refine Rn.region k11_7 (fun call K => r11_2) ?_
    refine Rch.leaf ?_
    exact Rn.ret k11_8 e11 H
  · replace H := H.2 (eq_of_bneF h)
    refine Rn.skip k11_10 ?_
    refine Rn.seq k11_11 ?_
    refine Rn.seq k11_12 ?_
    refine Rn.region k11_13 (fun call K => r11_3) ?_
    refine Rch.leaf ?_
    refine Rn.block k11_14 ?_
    refine Rn.loop k11_15 ?_
    exact H _ _ _ _ _ _ _ _ _ _ _ _ _ _ _ _ _ _ _ _ _ _ _

theorem w11_1 {Ax0 : Option Addr} {lx0 : Nat} {cx0 : Nat} {Ax1 : Option Addr} {lx1 : Nat} {cx1 : Nat} {x5 : Int} {M : Mem} {Q : Value → Mem → Prop} (H :
    ((x5 < ((lx0 : Int)) →
     ∃ v1', indexAddrP Try.prog 22 (.slice Ax0 lx0 cx0) (.int .i64 x5) = some v1' ∧
     ∃ p2', asP v1' = some p2' ∧
     ∃ a3', p2' = some a3' ∧
     ∃ x4', M.intAt .i64 a3'.block a3'.off = some x4' ∧
     ∃ v5', indexAddrP Try.prog 22 (.slice Ax1 lx1 cx1) (.int .i64 x5) = some v5' ∧
     ∃ p6', asP v5' = some p6' ∧
     ∃ a7', p6' = some a7' ∧
     ∃ x8', M.intAt .i64 a7'.block a7'.off = some x8' ∧
     ((x4' ≠ x8' →
      Q (.bool false) M) ∧
      (x4' = x8' →
      A11_1 Ax0 lx0 cx0 Ax1 lx1 cx1 (IntKind.i64.wrap (x5 + 1)) M Q))) ∧
     (¬ (x5 < ((lx0 : Int))) →
     Q (.bool true) M))) :
    A11_1 Ax0 lx0 cx0 Ax1 lx1 cx1 x5 M Q := by
  intro g2 g3 g4 g6 g7 g8 g9 g10 g11 g12 g13 g14 g15 g16 g17 g18 g19 g20 g21 g22 g23 g24 g25
  refine Rn.seq k11_16 ?_
  refine Rn.seq k11_17 ?_
  refine Rn.region k11_18 (fun call K => r11_4) ?_
  refine Rch.leaf ?_
  refine Rn.cnd c11_19 (fun h => ?_) (fun h => ?_)
  · replace H := H.1 (of_decide_eq_true h)
    refine Rn.skip k11_20 ?_
    refine Rn.seq k11_21 ?_
    refine Rn.block k11_22 ?_
    refine Rn.seq k11_23 ?_
    refine Rn.regionD k11_24 (fun call K => r11_6) ?_
    obtain ⟨v1', hv1', H⟩ := H
    refine Rch.bind hv1' ?_
    obtain ⟨p2', hp2', H⟩ := H
    refine Rch.bind hp2' ?_
    obtain ⟨a3', ha3', H⟩ := H
    refine Rch.bind ha3' ?_
    obtain ⟨x4', hx4', H⟩ := H
    refine Rch.bind hx4' ?_
    obtain ⟨v5', hv5', H⟩ := H
    refine Rch.bind hv5' ?_
    obtain ⟨p6', hp6', H⟩ := H
    refine Rch.bind hp6' ?_
    obtain ⟨a7', ha7', H⟩ := H
    refine Rch.bind ha7' ?_
    obtain ⟨x8', hx8', H⟩ := H
    refine Rch.bind hx8' ?_
    refine Rch.leaf ?_
    refine Rn.cnd c11_25 (fun h => ?_) (fun h => ?_)
    · replace H := H.1 (ne_of_bneT h)
      refine Rn.seq k11_26 ?_
      refine Rn.region k11_27 (fun call K => r11_7) ?_
      refine Rch.leaf ?_
      exact Rn.ret k11_28 e11 H
    · replace H := H.2 (eq_of_bneF h)
      refine Rn.skip k11_29 ?_
      refine Rn.blk ?_
      refine Rn.region k11_30 (fun call K => r11_5) ?_
      refine Rch.leaf ?_
      refine Rn.lp ?_
      exact H _ _ _ _ _ _ _ _ _ _ _ _ _ _ _ _ _ _ _ _ _ _ _
  · replace H := H.2 (of_decide_eq_false h)
    refine Rn.exit k11_31 rfl ?_
    refine Rn.seq k11_32 ?_
    refine Rn.region k11_33 (fun call K => r11_8) ?_
    refine Rch.leaf ?_
    exact Rn.ret k11_34 e11 H


/-! ### zoetrope/scan.Class: function 12 -/
theorem b12 : Try.prog.funcs[12]? = some Try.f12 := by kernel_rfl
theorem d12 : Try.f12.body = some (subC (codeOf Try.f12) []) := by kernel_rfl
theorem t12 {x0 : Int} : #[.int .i64 x0] ++ Array.replicate (Try.f12.ntmps - (#[.int .i64 x0] : Array Value).size) undef = #[.int .i64 x0, undef, undef, undef, undef, undef, undef, undef, undef, undef, undef, undef, undef, undef, undef, undef, undef, undef, undef, undef, undef, undef, undef, undef, undef, undef, undef, undef, undef] := by kernel_rfl
theorem k12_0 : subC (codeOf Try.f12) [] = .seq (subC (codeOf Try.f12) [0]) (subC (codeOf Try.f12) [1]) := by kernel_rfl
theorem k12_1 : subC (codeOf Try.f12) [0] = .region 0 (opsOf (subC (codeOf Try.f12) [0])) false := by kernel_rfl
theorem r12_0 {g0 g1 g2 g3 g4 g5 g6 g7 g8 g9 g10 g11 g12 g13 g14 g15 g16 g17 g18 g19 g20 g21 g22 g23 g24 g25 g26 g27 g28 : Value} {M : Mem} {call : CallM} {K : Array Value → Mem → R} :
    opsK Try.prog (fun _ => call) (opsOf (subC (codeOf Try.f12) [0])) (opsOf (subC (codeOf Try.f12) [0])).toList 0 #[g0, g1, g2, g3, g4, g5, g6, g7, g8, g9, g10, g11, g12, g13, g14, g15, g16, g17, g18, g19, g20, g21, g22, g23, g24, g25, g26, g27, g28] M K = K #[g0, g1, .int .i64 0, .int .i64 0, .int .i64 0, .int .i64 0, g6, g7, g8, g9, g10, g11, g12, g13, g14, g15, g16, g17, g18, g19, g20, g21, g22, g23, g24, g25, g26, g27, g28] M := by kernel_rfl
theorem k12_2 : subC (codeOf Try.f12) [1] = .seq (subC (codeOf Try.f12) [1, 0]) (subC (codeOf Try.f12) [1, 1]) := by kernel_rfl
theorem k12_3 : subC (codeOf Try.f12) [1, 0] = .block 0 (subC (codeOf Try.f12) [1, 0, 0]) := by kernel_rfl
theorem k12_4 : subC (codeOf Try.f12) [1, 0, 0] = .seq (subC (codeOf Try.f12) [1, 0, 0, 0]) (subC (codeOf Try.f12) [1, 0, 0, 1]) := by kernel_rfl
theorem k12_5 : subC (codeOf Try.f12) [1, 0, 0, 0] = .region 1 (opsOf (subC (codeOf Try.f12) [1, 0, 0, 0])) false := by kernel_rfl
theorem r12_1 {x0 : Int} {g1 g2 g3 g4 g5 g6 g7 g8 g9 g10 g11 g12 g13 g14 g15 g16 g17 g18 g19 g20 g21 g22 g23 g24 g25 g26 g27 g28 : Value} {M : Mem} {call : CallM} {K : Array Value → Mem → R} :
    opsK Try.prog (fun _ => call) (opsOf (subC (codeOf Try.f12) [1, 0, 0, 0])) (opsOf (subC (codeOf Try.f12) [1, 0, 0, 0])).toList 0 #[.int .i64 x0, g1, g2, g3, g4, g5, g6, g7, g8, g9, g10, g11, g12, g13, g14, g15, g16, g17, g18, g19, g20, g21, g22, g23, g24, g25, g26, g27, g28] M K = cond (decide (x0 < 1)) (K #[.int .i64 x0, g1, g2, g3, g4, g5, .bool true, .int .i64 x0, .bool (decide (x0 < 1)), .bool true, undef, undef, .bool true, g13, g14, g15, g16, g17, g18, g19, g20, g21, g22, g23, g24, g25, g26, g27, g28] M) (K #[.int .i64 x0, g1, g2, g3, g4, g5, .bool (decide (x0 > 1024)), .int .i64 x0, .bool (decide (x0 < 1)), .bool false, .int .i64 x0, .bool (decide (x0 > 1024)), .bool (decide (x0 > 1024)), g13, g14, g15, g16, g17, g18, g19, g20, g21, g22, g23, g24, g25, g26, g27, g28] M) := by kernel_rfl
theorem c12_6 {x6 : Bool} {g0 g1 g2 g3 g4 g5 g7 g8 g9 g10 g11 g12 g13 g14 g15 g16 g17 g18 g19 g20 g21 g22 g23 g24 g25 g26 g27 g28 : Value} : subC (codeOf Try.f12) [1, 0, 0, 1] = .cond (.tmp 6) (subC (codeOf Try.f12) [1, 0, 0, 1, 0]) (subC (codeOf Try.f12) [1, 0, 0, 1, 1]) ∧ okOperand (.tmp 6) = true ∧ evalT #[g0, g1, g2, g3, g4, g5, .bool x6, g7, g8, g9, g10, g11, g12, g13, g14, g15, g16, g17, g18, g19, g20, g21, g22, g23, g24, g25, g26, g27, g28] (.tmp 6) = .bool x6 := ⟨by kernel_rfl, by kernel_rfl, by kernel_rfl⟩
theorem k12_7 : subC (codeOf Try.f12) [1, 0, 0, 1, 0] = .seq (subC (codeOf Try.f12) [1, 0, 0, 1, 0, 0]) (subC (codeOf Try.f12) [1, 0, 0, 1, 0, 1]) := by kernel_rfl
theorem k12_8 : subC (codeOf Try.f12) [1, 0, 0, 1, 0, 0] = .region 2 (opsOf (subC (codeOf Try.f12) [1, 0, 0, 1, 0, 0])) false := by kernel_rfl
theorem r12_2 {g0 g1 g2 g3 g4 g5 g6 g7 g8 g9 g10 g11 g12 g13 g14 g15 g16 g17 g18 g19 g20 g21 g22 g23 g24 g25 g26 g27 g28 : Value} {M : Mem} {call : CallM} {K : Array Value → Mem → R} :
    opsK Try.prog (fun _ => call) (opsOf (subC (codeOf Try.f12) [1, 0, 0, 1, 0, 0])) (opsOf (subC (codeOf Try.f12) [1, 0, 0, 1, 0, 0])).toList 0 #[g0, g1, g2, g3, g4, g5, g6, g7, g8, g9, g10, g11, g12, g13, g14, g15, g16, g17, g18, g19, g20, g21, g22, g23, g24, g25, g26, g27, g28] M K = K #[g0, g1, .int .i64 0, .int .i64 0, .int .i64 0, .int .i64 2, g6, g7, g8, g9, g10, g11, g12, g13, g14, g15, g16, g17, g18, g19, g20, g21, g22, g23, g24, g25, g26, g27, g28] M := by kernel_rfl
theorem k12_9 : subC (codeOf Try.f12) [1, 0, 0, 1, 0, 1] = .ret := by kernel_rfl
theorem e12 {g0 g1 g2 g3 g4 g5 g6 g7 g8 g9 g10 g11 g12 g13 g14 g15 g16 g17 g18 g19 g20 g21 g22 g23 g24 g25 g26 g27 g28 : Value} {M : Mem} : finish Try.prog Try.f12 #[g0, g1, g2, g3, g4, g5, g6, g7, g8, g9, g10, g11, g12, g13, g14, g15, g16, g17, g18, g19, g20, g21, g22, g23, g24, g25, g26, g27, g28] M = some (.tuple #[g2, g3, g4, g5], M) := by kernel_rfl
theorem k12_11 : subC (codeOf Try.f12) [1, 0, 0, 1, 1] = .seq (subC (codeOf Try.f12) [1, 0, 0, 1, 1, 0]) (subC (codeOf Try.f12) [1, 0, 0, 1, 1, 1]) := by kernel_rfl
theorem k12_12 : subC (codeOf Try.f12) [1, 0, 0, 1, 1, 0] = .region 3 (opsOf (subC (codeOf Try.f12) [1, 0, 0, 1, 1, 0])) false := by kernel_rfl
theorem r12_3 {x0 : Int} {g1 g2 g3 g4 g5 g6 g7 g8 g9 g10 g11 g12 g13 g14 g15 g16 g17 g18 g19 g20 g21 g22 g23 g24 g25 g26 g27 g28 : Value} {M : Mem} {call : CallM} {K : Array Value → Mem → R} :
    opsK Try.prog (fun _ => call) (opsOf (subC (codeOf Try.f12) [1, 0, 0, 1, 1, 0])) (opsOf (subC (codeOf Try.f12) [1, 0, 0, 1, 1, 0])).toList 0 #[.int .i64 x0, g1, g2, g3, g4, g5, g6, g7, g8, g9, g10, g11, g12, g13, g14, g15, g16, g17, g18, g19, g20, g21, g22, g23, g24, g25, g26, g27, g28] M K = K #[.int .i64 x0, g1, g2, g3, g4, g5, g6, g7, g8, g9, g10, g11, g12, .bool (x0 == 1), .int .i64 x0, .bool (x0 == 1), g16, g17, g18, g19, g20, g21, g22, g23, g24, g25, g26, g27, g28] M := by kernel_rfl
theorem c12_13 {x13 : Bool} {g0 g1 g2 g3 g4 g5 g6 g7 g8 g9 g10 g11 g12 g14 g15 g16 g17 g18 g19 g20 g21 g22 g23 g24 g25 g26 g27 g28 : Value} : subC (codeOf Try.f12) [1, 0, 0, 1, 1, 1] = .cond (.tmp 13) (subC (codeOf Try.f12) [1, 0, 0, 1, 1, 1, 0]) (subC (codeOf Try.f12) [1, 0, 0, 1, 1, 1, 1]) ∧ okOperand (.tmp 13) = true ∧ evalT #[g0, g1, g2, g3, g4, g5, g6, g7, g8, g9, g10, g11, g12, .bool x13, g14, g15, g16, g17, g18, g19, g20, g21, g22, g23, g24, g25, g26, g27, g28] (.tmp 13) = .bool x13 := ⟨by kernel_rfl, by kernel_rfl, by kernel_rfl⟩
theorem k12_14 : subC (codeOf Try.f12) [1, 0, 0, 1, 1, 1, 0] = .seq (subC (codeOf Try.f12) [1, 0, 0, 1, 1, 1, 0, 0]) (subC (codeOf Try.f12) [1, 0, 0, 1, 1, 1, 0, 1]) := by kernel_rfl
theorem k12_15 : subC (codeOf Try.f12) [1, 0, 0, 1, 1, 1, 0, 0] = .region 4 (opsOf (subC (codeOf Try.f12) [1, 0, 0, 1, 1, 1, 0, 0])) false := by kernel_rfl
theorem r12_4 {g0 g1 g2 g3 g4 g5 g6 g7 g8 g9 g10 g11 g12 g13 g14 g15 g16 g17 g18 g19 g20 g21 g22 g23 g24 g25 g26 g27 g28 : Value} {M : Mem} {call : CallM} {K : Array Value → Mem → R} :
    opsK Try.prog (fun _ => call) (opsOf (subC (codeOf Try.f12) [1, 0, 0, 1, 1, 1, 0, 0])) (opsOf (subC (codeOf Try.f12) [1, 0, 0, 1, 1, 1, 0, 0])).toList 0 #[g0, g1, g2, g3, g4, g5, g6, g7, g8, g9, g10, g11, g12, g13, g14, g15, g16, g17, g18, g19, g20, g21, g22, g23, g24, g25, g26, g27, g28] M K = K #[g0, g1, .int .i64 0, .int .i64 0, .int .i64 0, .int .i64 0, g6, g7, g8, g9, g10, g11, g12, g13, g14, g15, g16, g17, g18, g19, g20, g21, g22, g23, g24, g25, g26, g27, g28] M := by kernel_rfl
theorem k12_16 : subC (codeOf Try.f12) [1, 0, 0, 1, 1, 1, 0, 1] = .ret := by kernel_rfl
theorem k12_17 : subC (codeOf Try.f12) [1, 0, 0, 1, 1, 1, 1] = .skip := by kernel_rfl
theorem k12_18 : subC (codeOf Try.f12) [1, 1] = .seq (subC (codeOf Try.f12) [1, 1, 0]) (subC (codeOf Try.f12) [1, 1, 1]) := by kernel_rfl
theorem k12_19 : subC (codeOf Try.f12) [1, 1, 0] = .region 5 (opsOf (subC (codeOf Try.f12) [1, 1, 0])) false := by kernel_rfl
theorem r12_5 {x0 : Int} {g1 g2 g3 g4 g5 g6 g7 g8 g9 g10 g11 g12 g13 g14 g15 g16 g17 g18 g19 g20 g21 g22 g23 g24 g25 g26 g27 g28 : Value} {M : Mem} {call : CallM} {K : Array Value → Mem → R} :
    opsK Try.prog (fun _ => call) (opsOf (subC (codeOf Try.f12) [1, 1, 0])) (opsOf (subC (codeOf Try.f12) [1, 1, 0])).toList 0 #[.int .i64 x0, g1, g2, g3, g4, g5, g6, g7, g8, g9, g10, g11, g12, g13, g14, g15, g16, g17, g18, g19, g20, g21, g22, g23, g24, g25, g26, g27, g28] M K = (call 23 #[.int .u64 (IntKind.u64.wrap (IntKind.i64.wrap (x0 - 1)))] M).bind fun r_1 => (asI .i64 r_1.1).bind fun x_2 => K #[.int .i64 x0, g1, .int .i64 x_2, g3, g4, g5, g6, g7, g8, g9, g10, g11, g12, g13, g14, g15, .int .i64 x0, .int .i64 (IntKind.i64.wrap (x0 - 1)), .int .u64 (IntKind.u64.wrap (IntKind.i64.wrap (x0 - 1))), .int .i64 x_2, g20, g21, g22, g23, g24, g25, g26, g27, g28] r_1.2 := by kernel_rfl
theorem k12_20 : subC (codeOf Try.f12) [1, 1, 1] = .seq (subC (codeOf Try.f12) [1, 1, 1, 0]) (subC (codeOf Try.f12) [1, 1, 1, 1]) := by kernel_rfl
theorem k12_21 : subC (codeOf Try.f12) [1, 1, 1, 0] = .region 6 (opsOf (subC (codeOf Try.f12) [1, 1, 1, 0])) true ∧ drawOk (opsOf (subC (codeOf Try.f12) [1, 1, 1, 0])) = true := ⟨by kernel_rfl, by kernel_rfl⟩
theorem r12_6 {x0 : Int} {x2 : Int} {g1 g3 g4 g5 g6 g7 g8 g9 g10 g11 g12 g13 g14 g15 g16 g17 g18 g19 g20 g21 g22 g23 g24 g25 g26 g27 g28 : Value} {M : Mem} {call : CallM} {K : Array Value → Mem → R} :
    opsK Try.prog (callAt call (opsOf (subC (codeOf Try.f12) [1, 1, 1, 0]))) (opsOf (subC (codeOf Try.f12) [1, 1, 1, 0])) (opsOf (subC (codeOf Try.f12) [1, 1, 1, 0])).toList 0 #[.int .i64 x0, g1, .int .i64 x2, g3, g4, g5, g6, g7, g8, g9, g10, g11, g12, g13, g14, g15, g16, g17, g18, g19, g20, g21, g22, g23, g24, g25, g26, g27, g28] M K = (binV Try.prog .shl 3 3 (.int .i64 1) (.int .i64 (IntKind.i64.wrap (x2 - 1)))).bind fun v_1 => (asI .i64 v_1).bind fun x_2 => K #[.int .i64 x0, g1, .int .i64 x2, .int .i64 (IntKind.i64.wrap (x2 - 1)), .int .i64 (IntKind.i64.wrap ((IntKind.i64.wrap (x0 - x_2)) - 1)), .int .i64 0, g6, g7, g8, g9, g10, g11, g12, g13, g14, g15, g16, g17, g18, g19, .int .i64 x2, .int .i64 x2, .int .i64 (IntKind.i64.wrap (x2 - 1)), .int .i64 x0, .int .i64 x2, .int .i64 (IntKind.i64.wrap (x2 - 1)), .int .i64 x_2, .int .i64 (IntKind.i64.wrap (x0 - x_2)), .int .i64 (IntKind.i64.wrap ((IntKind.i64.wrap (x0 - x_2)) - 1))] M := by kernel_rfl
theorem k12_22 : subC (codeOf Try.f12) [1, 1, 1, 1] = .ret := by kernel_rfl
noncomputable def S12_1 : List Item := [.code (subC (codeOf Try.f12) [1, 0, 0, 1]), .inBlock 0, .code (subC (codeOf Try.f12) [1, 1])]
def A12_1 (x0 : Int) (x6 : Bool) (M : Mem) (Q : Value → Mem → Prop) : Prop := ∀ (g1 g2 g3 g4 g5 g7 g8 g9 g10 g11 g12 g13 g14 g15 g16 g17 g18 g19 g20 g21 g22 g23 g24 g25 g26 g27 g28 : Value), Rn Try.prog Try.f12 S12_1 #[.int .i64 x0, g1, g2, g3, g4, g5, .bool x6, g7, g8, g9, g10, g11, g12, g13, g14, g15, g16, g17, g18, g19, g20, g21, g22, g23, g24, g25, g26, g27, g28] M Q
theorem w12_0 {x0 : Int} {M : Mem} {Q : Value → Mem → Prop} (H :
    ((x0 < 1 →
     A12_1 x0 true M Q) ∧
     (¬ (x0 < 1) →
     A12_1 x0 (decide (x0 > 1024)) M Q))) :
    Cn Try.prog 12 #[.int .i64 x0] M Q := by
  refine Cn.of b12 d12 t12 ?_
  refine Rn.seq k12_0 ?_
  refine Rn.region k12_1 (fun call K => r12_0) ?_
  refine Rch.leaf ?_
  refine Rn.seq k12_2 ?_
  refine Rn.block k12_3 ?_
  refine Rn.seq k12_4 ?_
  refine Rn.region k12_5 (fun call K => r12_1) ?_
  refine Rch.cB (fun h => ?_) (fun h => ?_)
  · replace H := H.1 (of_decide_eq_true h)
    refine Rch.leaf ?_
    exact H _ _ _ _ _ _ _ _ _ _ _ _ _ _ _ _ _ _ _ _ _ _ _ _ _ _ _
  · replace H := H.2 (of_decide_eq_false h)
    refine Rch.leaf ?_
    exact H _ _ _ _ _ _ _ _ _ _ _ _ _ _ _ _ _ _ _ _ _ _ _ _ _ _ _

theorem w12_1 {x0 : Int} {x6 : Bool} {M : Mem} {Q : Value → Mem → Prop} (H :
    ((x6 = true →
     Q (.tuple #[.int .i64 0, .int .i64 0, .int .i64 0, .int .i64 2]) M) ∧
     (x6 = false →
     ((x0 = 1 →
      Q (.tuple #[.int .i64 0, .int .i64 0, .int .i64 0, .int .i64 0]) M) ∧
      (x0 ≠ 1 →
      Cn Try.prog 23 #[.int .u64 (IntKind.u64.wrap (IntKind.i64.wrap (x0 - 1)))] M fun v1' N1' =>
       ∃ x2', asI .i64 v1' = some x2' ∧
       ∃ v3', binV Try.prog .shl 3 3 (.int .i64 1) (.int .i64 (IntKind.i64.wrap (x2' - 1))) = some v3' ∧
       ∃ x4', asI .i64 v3' = some x4' ∧
       Q (.tuple #[.int .i64 (x2'), .int .i64 (IntKind.i64.wrap (x2' - 1)), .int .i64 (IntKind.i64.wrap ((IntKind.i64.wrap (x0 - x4')) - 1)), .int .i64 0]) N1'))))) :
    A12_1 x0 x6 M Q := by
  intro g1 g2 g3 g4 g5 g7 g8 g9 g10 g11 g12 g13 g14 g15 g16 g17 g18 g19 g20 g21 g22 g23 g24 g25 g26 g27 g28
  refine Rn.cnd c12_6 (fun h => ?_) (fun h => ?_)
  · replace H := H.1 (h)
    refine Rn.seq k12_7 ?_
    refine Rn.region k12_8 (fun call K => r12_2) ?_
    refine Rch.leaf ?_
    exact Rn.ret k12_9 e12 H
  · replace H := H.2 (h)
    refine Rn.seq k12_11 ?_
    refine Rn.region k12_12 (fun call K => r12_3) ?_
    refine Rch.leaf ?_
    refine Rn.cnd c12_13 (fun h => ?_) (fun h => ?_)
    · replace H := H.1 (eq_of_beq h)
      refine Rn.seq k12_14 ?_
      refine Rn.region k12_15 (fun call K => r12_4) ?_
      refine Rch.leaf ?_
      exact Rn.ret k12_16 e12 H
    · replace H := H.2 (ne_of_beq_false h)
      refine Rn.skip k12_17 ?_
      refine Rn.blk ?_
      refine Rn.seq k12_18 ?_
      refine Rn.region k12_19 (fun call K => r12_5) ?_
      refine Rch.call H (fun v1' N1' H => ?_)
      obtain ⟨x2', hx2', H⟩ := H
      refine Rch.bind hx2' ?_
      refine Rch.leaf ?_
      refine Rn.seq k12_20 ?_
      refine Rn.regionD k12_21 (fun call K => r12_6) ?_
      obtain ⟨v3', hv3', H⟩ := H
      refine Rch.bind hv3' ?_
      obtain ⟨x4', hx4', H⟩ := H
      refine Rch.bind hx4' ?_
      refine Rch.leaf ?_
      exact Rn.ret k12_22 e12 H


/-! ### zoetrope/zoetroperef10.Class: function 13 -/
theorem b13 : Try.prog.funcs[13]? = some Try.f13 := by kernel_rfl
theorem d13 : Try.f13.body = some (subC (codeOf Try.f13) []) := by kernel_rfl
theorem t13 {x0 : Int} : #[.int .i64 x0] ++ Array.replicate (Try.f13.ntmps - (#[.int .i64 x0] : Array Value).size) undef = #[.int .i64 x0, undef, undef, undef, undef, undef, undef, undef, undef, undef, undef, undef, undef, undef, undef, undef, undef, undef, undef, undef, undef, undef, undef, undef, undef, undef, undef, undef, undef, undef, undef, undef, undef] := by kernel_rfl
theorem k13_0 : subC (codeOf Try.f13) [] = .seq (subC (codeOf Try.f13) [0]) (subC (codeOf Try.f13) [1]) := by kernel_rfl
theorem k13_1 : subC (codeOf Try.f13) [0] = .region 0 (opsOf (subC (codeOf Try.f13) [0])) false := by kernel_rfl
theorem r13_0 {g0 g1 g2 g3 g4 g5 g6 g7 g8 g9 g10 g11 g12 g13 g14 g15 g16 g17 g18 g19 g20 g21 g22 g23 g24 g25 g26 g27 g28 g29 g30 g31 g32 : Value} {M : Mem} {call : CallM} {K : Array Value → Mem → R} :
    opsK Try.prog (fun _ => call) (opsOf (subC (codeOf Try.f13) [0])) (opsOf (subC (codeOf Try.f13) [0])).toList 0 #[g0, g1, g2, g3, g4, g5, g6, g7, g8, g9, g10, g11, g12, g13, g14, g15, g16, g17, g18, g19, g20, g21, g22, g23, g24, g25, g26, g27, g28, g29, g30, g31, g32] M K = K #[g0, g1, .int .i64 0, .int .i64 0, .int .i64 0, .int .i64 0, g6, g7, g8, g9, g10, g11, g12, g13, g14, g15, g16, g17, g18, g19, g20, g21, g22, g23, g24, g25, g26, g27, g28, g29, g30, g31, g32] M := by kernel_rfl
theorem k13_2 : subC (codeOf Try.f13) [1] = .seq (subC (codeOf Try.f13) [1, 0]) (subC (codeOf Try.f13) [1, 1]) := by kernel_rfl
theorem k13_3 : subC (codeOf Try.f13) [1, 0] = .seq (subC (codeOf Try.f13) [1, 0, 0]) (subC (codeOf Try.f13) [1, 0, 1]) := by kernel_rfl
theorem k13_4 : subC (codeOf Try.f13) [1, 0, 0] = .region 1 (opsOf (subC (codeOf Try.f13) [1, 0, 0])) false := by kernel_rfl
theorem r13_1 {x0 : Int} {g1 g2 g3 g4 g5 g6 g7 g8 g9 g10 g11 g12 g13 g14 g15 g16 g17 g18 g19 g20 g21 g22 g23 g24 g25 g26 g27 g28 g29 g30 g31 g32 : Value} {M : Mem} {call : CallM} {K : Array Value → Mem → R} :
    opsK Try.prog (fun _ => call) (opsOf (subC (codeOf Try.f13) [1, 0, 0])) (opsOf (subC (codeOf Try.f13) [1, 0, 0])).toList 0 #[.int .i64 x0, g1, g2, g3, g4, g5, g6, g7, g8, g9, g10, g11, g12, g13, g14, g15, g16, g17, g18, g19, g20, g21, g22, g23, g24, g25, g26, g27, g28, g29, g30, g31, g32] M K = cond (decide (x0 < 1)) (K #[.int .i64 x0, g1, g2, g3, g4, g5, g6, g7, .int .i64 x0, .bool (decide (x0 < 1)), .bool true, undef, undef, .bool true, g14, g15, g16, g17, g18, g19, g20, g21, g22, g23, g24, g25, g26, g27, g28, g29, g30, g31, g32] M) (K #[.int .i64 x0, g1, g2, g3, g4, g5, g6, g7, .int .i64 x0, .bool (decide (x0 < 1)), .bool false, .int .i64 x0, .bool (decide (x0 > 1024)), .bool (decide (x0 > 1024)), g14, g15, g16, g17, g18, g19, g20, g21, g22, g23, g24, g25, g26, g27, g28, g29, g30, g31, g32] M) := by kernel_rfl
theorem c13_5 {x13 : Bool} {g0 g1 g2 g3 g4 g5 g6 g7 g8 g9 g10 g11 g12 g14 g15 g16 g17 g18 g19 g20 g21 g22 g23 g24 g25 g26 g27 g28 g29 g30 g31 g32 : Value} : subC (codeOf Try.f13) [1, 0, 1] = .cond (.tmp 13) (subC (codeOf Try.f13) [1, 0, 1, 0]) (subC (codeOf Try.f13) [1, 0, 1, 1]) ∧ okOperand (.tmp 13) = true ∧ evalT #[g0, g1, g2, g3, g4, g5, g6, g7, g8, g9, g10, g11, g12, .bool x13, g14, g15, g16, g17, g18, g19, g20, g21, g22, g23, g24, g25, g26, g27, g28, g29, g30, g31, g32] (.tmp 13) = .bool x13 := ⟨by kernel_rfl, by kernel_rfl, by kernel_rfl⟩
theorem k13_6 : subC (codeOf Try.f13) [1, 0, 1, 0] = .seq (subC (codeOf Try.f13) [1, 0, 1, 0, 0]) (subC (codeOf Try.f13) [1, 0, 1, 0, 1]) := by kernel_rfl
theorem k13_7 : subC (codeOf Try.f13) [1, 0, 1, 0, 0] = .region 2 (opsOf (subC (codeOf Try.f13) [1, 0, 1, 0, 0])) false := by kernel_rfl
theorem r13_2 {g0 g1 g2 g3 g4 g5 g6 g7 g8 g9 g10 g11 g12 g13 g14 g15 g16 g17 g18 g19 g20 g21 g22 g23 g24 g25 g26 g27 g28 g29 g30 g31 g32 : Value} {M : Mem} {call : CallM} {K : Array Value → Mem → R} :
    opsK Try.prog (fun _ => call) (opsOf (subC (codeOf Try.f13) [1, 0, 1, 0, 0])) (opsOf (subC (codeOf Try.f13) [1, 0, 1, 0, 0])).toList 0 #[g0, g1, g2, g3, g4, g5, g6, g7, g8, g9, g10, g11, g12, g13, g14, g15, g16, g17, g18, g19, g20, g21, g22, g23, g24, g25, g26, g27, g28, g29, g30, g31, g32] M K = K #[g0, g1, .int .i64 0, .int .i64 0, .int .i64 0, .int .i64 2, g6, g7, g8, g9, g10, g11, g12, g13, g14, g15, g16, g17, g18, g19, g20, g21, g22, g23, g24, g25, g26, g27, g28, g29, g30, g31, g32] M := by kernel_rfl
theorem k13_8 : subC (codeOf Try.f13) [1, 0, 1, 0, 1] = .ret := by kernel_rfl
theorem e13 {g0 g1 g2 g3 g4 g5 g6 g7 g8 g9 g10 g11 g12 g13 g14 g15 g16 g17 g18 g19 g20 g21 g22 g23 g24 g25 g26 g27 g28 g29 g30 g31 g32 : Value} {M : Mem} : finish Try.prog Try.f13 #[g0, g1, g2, g3, g4, g5, g6, g7, g8, g9, g10, g11, g12, g13, g14, g15, g16, g17, g18, g19, g20, g21, g22, g23, g24, g25, g26, g27, g28, g29, g30, g31, g32] M = some (.tuple #[g2, g3, g4, g5], M) := by kernel_rfl
theorem k13_10 : subC (codeOf Try.f13) [1, 0, 1, 1] = .skip := by kernel_rfl
theorem k13_11 : subC (codeOf Try.f13) [1, 1] = .seq (subC (codeOf Try.f13) [1, 1, 0]) (subC (codeOf Try.f13) [1, 1, 1]) := by kernel_rfl
theorem k13_12 : subC (codeOf Try.f13) [1, 1, 0] = .seq (subC (codeOf Try.f13) [1, 1, 0, 0]) (subC (codeOf Try.f13) [1, 1, 0, 1]) := by kernel_rfl
theorem k13_13 : subC (codeOf Try.f13) [1, 1, 0, 0] = .region 3 (opsOf (subC (codeOf Try.f13) [1, 1, 0, 0])) false := by kernel_rfl
theorem r13_3 {x0 : Int} {g1 g2 g3 g4 g5 g6 g7 g8 g9 g10 g11 g12 g13 g14 g15 g16 g17 g18 g19 g20 g21 g22 g23 g24 g25 g26 g27 g28 g29 g30 g31 g32 : Value} {M : Mem} {call : CallM} {K : Array Value → Mem → R} :
    opsK Try.prog (fun _ => call) (opsOf (subC (codeOf Try.f13) [1, 1, 0, 0])) (opsOf (subC (codeOf Try.f13) [1, 1, 0, 0])).toList 0 #[.int .i64 x0, g1, g2, g3, g4, g5, g6, g7, g8, g9, g10, g11, g12, g13, g14, g15, g16, g17, g18, g19, g20, g21, g22, g23, g24, g25, g26, g27, g28, g29, g30, g31, g32] M K = K #[.int .i64 x0, g1, g2, g3, g4, g5, g6, g7, g8, g9, g10, g11, g12, g13, .int .i64 x0, .bool (x0 == 1), g16, g17, g18, g19, g20, g21, g22, g23, g24, g25, g26, g27, g28, g29, g30, g31, g32] M := by kernel_rfl
theorem c13_14 {x15 : Bool} {g0 g1 g2 g3 g4 g5 g6 g7 g8 g9 g10 g11 g12 g13 g14 g16 g17 g18 g19 g20 g21 g22 g23 g24 g25 g26 g27 g28 g29 g30 g31 g32 : Value} : subC (codeOf Try.f13) [1, 1, 0, 1] = .cond (.tmp 15) (subC (codeOf Try.f13) [1, 1, 0, 1, 0]) (subC (codeOf Try.f13) [1, 1, 0, 1, 1]) ∧ okOperand (.tmp 15) = true ∧ evalT #[g0, g1, g2, g3, g4, g5, g6, g7, g8, g9, g10, g11, g12, g13, g14, .bool x15, g16, g17, g18, g19, g20, g21, g22, g23, g24, g25, g26, g27, g28, g29, g30, g31, g32] (.tmp 15) = .bool x15 := ⟨by kernel_rfl, by kernel_rfl, by kernel_rfl⟩
theorem k13_15 : subC (codeOf Try.f13) [1, 1, 0, 1, 0] = .seq (subC (codeOf Try.f13) [1, 1, 0, 1, 0, 0]) (subC (codeOf Try.f13) [1, 1, 0, 1, 0, 1]) := by kernel_rfl
theorem k13_16 : subC (codeOf Try.f13) [1, 1, 0, 1, 0, 0] = .region 4 (opsOf (subC (codeOf Try.f13) [1, 1, 0, 1, 0, 0])) false := by kernel_rfl
theorem r13_4 {g0 g1 g2 g3 g4 g5 g6 g7 g8 g9 g10 g11 g12 g13 g14 g15 g16 g17 g18 g19 g20 g21 g22 g23 g24 g25 g26 g27 g28 g29 g30 g31 g32 : Value} {M : Mem} {call : CallM} {K : Array Value → Mem → R} :
    opsK Try.prog (fun _ => call) (opsOf (subC (codeOf Try.f13) [1, 1, 0, 1, 0, 0])) (opsOf (subC (codeOf Try.f13) [1, 1, 0, 1, 0, 0])).toList 0 #[g0, g1, g2, g3, g4, g5, g6, g7, g8, g9, g10, g11, g12, g13, g14, g15, g16, g17, g18, g19, g20, g21, g22, g23, g24, g25, g26, g27, g28, g29, g30, g31, g32] M K = K #[g0, g1, .int .i64 0, .int .i64 0, .int .i64 0, .int .i64 0, g6, g7, g8, g9, g10, g11, g12, g13, g14, g15, g16, g17, g18, g19, g20, g21, g22, g23, g24, g25, g26, g27, g28, g29, g30, g31, g32] M := by kernel_rfl
theorem k13_17 : subC (codeOf Try.f13) [1, 1, 0, 1, 0, 1] = .ret := by kernel_rfl
theorem k13_18 : subC (codeOf Try.f13) [1, 1, 0, 1, 1] = .skip := by kernel_rfl
theorem k13_19 : subC (codeOf Try.f13) [1, 1, 1] = .seq (subC (codeOf Try.f13) [1, 1, 1, 0]) (subC (codeOf Try.f13) [1, 1, 1, 1]) := by kernel_rfl
theorem k13_20 : subC (codeOf Try.f13) [1, 1, 1, 0] = .region 5 (opsOf (subC (codeOf Try.f13) [1, 1, 1, 0])) false := by kernel_rfl
theorem r13_5 {g0 g1 g2 g3 g4 g5 g6 g7 g8 g9 g10 g11 g12 g13 g14 g15 g16 g17 g18 g19 g20 g21 g22 g23 g24 g25 g26 g27 g28 g29 g30 g31 g32 : Value} {M : Mem} {call : CallM} {K : Array Value → Mem → R} :
    opsK Try.prog (fun _ => call) (opsOf (subC (codeOf Try.f13) [1, 1, 1, 0])) (opsOf (subC (codeOf Try.f13) [1, 1, 1, 0])).toList 0 #[g0, g1, g2, g3, g4, g5, g6, g7, g8, g9, g10, g11, g12, g13, g14, g15, g16, g17, g18, g19, g20, g21, g22, g23, g24, g25, g26, g27, g28, g29, g30, g31, g32] M K = K #[g0, g1, g2, g3, g4, g5, .int .i64 1, g7, g8, g9, g10, g11, g12, g13, g14, g15, g16, g17, g18, g19, g20, g21, g22, g23, g24, g25, g26, g27, g28, g29, g30, g31, g32] M := by kernel_rfl
theorem k13_21 : subC (codeOf Try.f13) [1, 1, 1, 1] = .seq (subC (codeOf Try.f13) [1, 1, 1, 1, 0]) (subC (codeOf Try.f13) [1, 1, 1, 1, 1]) := by kernel_rfl
theorem k13_22 : subC (codeOf Try.f13) [1, 1, 1, 1, 0] = .region 6 (opsOf (subC (codeOf Try.f13) [1, 1, 1, 1, 0])) false := by kernel_rfl
theorem r13_6 {g0 g1 g2 g3 g4 g5 g6 g7 g8 g9 g10 g11 g12 g13 g14 g15 g16 g17 g18 g19 g20 g21 g22 g23 g24 g25 g26 g27 g28 g29 g30 g31 g32 : Value} {M : Mem} {call : CallM} {K : Array Value → Mem → R} :
    opsK Try.prog (fun _ => call) (opsOf (subC (codeOf Try.f13) [1, 1, 1, 1, 0])) (opsOf (subC (codeOf Try.f13) [1, 1, 1, 1, 0])).toList 0 #[g0, g1, g2, g3, g4, g5, g6, g7, g8, g9, g10, g11, g12, g13, g14, g15, g16, g17, g18, g19, g20, g21, g22, g23, g24, g25, g26, g27, g28, g29, g30, g31, g32] M K = K #[g0, g1, g2, g3, g4, g5, g6, .int .i64 2, g8, g9, g10, g11, g12, g13, g14, g15, g16, g17, g18, g19, g20, g21, g22, g23, g24, g25, g26, g27, g28, g29, g30, g31, g32] M := by kernel_rfl
theorem k13_23 : subC (codeOf Try.f13) [1, 1, 1, 1, 1] = .seq (subC (codeOf Try.f13) [1, 1, 1, 1, 1, 0]) (subC (codeOf Try.f13) [1, 1, 1, 1, 1, 1]) := by kernel_rfl
theorem k13_24 : subC (codeOf Try.f13) [1, 1, 1, 1, 1, 0] = .block 0 (subC (codeOf Try.f13) [1, 1, 1, 1, 1, 0, 0]) := by kernel_rfl
theorem k13_25 : subC (codeOf Try.f13) [1, 1, 1, 1, 1, 0, 0] = .loop (subC (codeOf Try.f13) [1, 1, 1, 1, 1, 0, 0, 0]) := by kernel_rfl
theorem k13_26 : subC (codeOf Try.f13) [1, 1, 1, 1, 1, 0, 0, 0] = .seq (subC (codeOf Try.f13) [1, 1, 1, 1, 1, 0, 0, 0, 0]) (subC (codeOf Try.f13) [1, 1, 1, 1, 1, 0, 0, 0, 1]) := by kernel_rfl
theorem k13_27 : subC (codeOf Try.f13) [1, 1, 1, 1, 1, 0, 0, 0, 0] = .seq (subC (codeOf Try.f13) [1, 1, 1, 1, 1, 0, 0, 0, 0, 0]) (subC (codeOf Try.f13) [1, 1, 1, 1, 1, 0, 0, 0, 0, 1]) := by kernel_rfl
theorem k13_28 : subC (codeOf Try.f13) [1, 1, 1, 1, 1, 0, 0, 0, 0, 0] = .region 7 (opsOf (subC (codeOf Try.f13) [1, 1, 1, 1, 1, 0, 0, 0, 0, 0])) false := by kernel_rfl
theorem r13_7 {x0 : Int} {x7 : Int} {g1 g2 g3 g4 g5 g6 g8 g9 g10 g11 g12 g13 g14 g15 g16 g17 g18 g19 g20 g21 g22 g23 g24 g25 g26 g27 g28 g29 g30 g31 g32 : Value} {M : Mem} {call : CallM} {K : Array Value → Mem → R} :
    opsK Try.prog (fun _ => call) (opsOf (subC (codeOf Try.f13) [1, 1, 1, 1, 1, 0, 0, 0, 0, 0])) (opsOf (subC (codeOf Try.f13) [1, 1, 1, 1, 1, 0, 0, 0, 0, 0])).toList 0 #[.int .i64 x0, g1, g2, g3, g4, g5, g6, .int .i64 x7, g8, g9, g10, g11, g12, g13, g14, g15, g16, g17, g18, g19, g20, g21, g22, g23, g24, g25, g26, g27, g28, g29, g30, g31, g32] M K = K #[.int .i64 x0, g1, g2, g3, g4, g5, g6, .int .i64 x7, g8, g9, g10, g11, g12, g13, g14, g15, .int .i64 x0, .int .i64 x7, .int .i64 (IntKind.i64.wrap (x7 - 1)), .int .i64 (IntKind.i64.wrap (2 * (IntKind.i64.wrap (x7 - 1)))), .bool (decide (x0 > (IntKind.i64.wrap (2 * (IntKind.i64.wrap (x7 - 1)))))), g21, g22, g23, g24, g25, g26, g27, g28, g29, g30, g31, g32] M := by kernel_rfl
theorem c13_29 {x20 : Bool} {g0 g1 g2 g3 g4 g5 g6 g7 g8 g9 g10 g11 g12 g13 g14 g15 g16 g17 g18 g19 g21 g22 g23 g24 g25 g26 g27 g28 g29 g30 g31 g32 : Value} : subC (codeOf Try.f13) [1, 1, 1, 1, 1, 0, 0, 0, 0, 1] = .cond (.tmp 20) (subC (codeOf Try.f13) [1, 1, 1, 1, 1, 0, 0, 0, 0, 1, 0]) (subC (codeOf Try.f13) [1, 1, 1, 1, 1, 0, 0, 0, 0, 1, 1]) ∧ okOperand (.tmp 20) = true ∧ evalT #[g0, g1, g2, g3, g4, g5, g6, g7, g8, g9, g10, g11, g12, g13, g14, g15, g16, g17, g18, g19, .bool x20, g21, g22, g23, g24, g25, g26, g27, g28, g29, g30, g31, g32] (.tmp 20) = .bool x20 := ⟨by kernel_rfl, by kernel_rfl, by kernel_rfl⟩
theorem k13_30 : subC (codeOf Try.f13) [1, 1, 1, 1, 1, 0, 0, 0, 0, 1, 0] = .skip := by kernel_rfl
theorem k13_31 : subC (codeOf Try.f13) [1, 1, 1, 1, 1, 0, 0, 0, 1] = .block 1 (subC (codeOf Try.f13) [1, 1, 1, 1, 1, 0, 0, 0, 1, 0]) := by kernel_rfl
theorem k13_32 : subC (codeOf Try.f13) [1, 1, 1, 1, 1, 0, 0, 0, 1, 0] = .seq (subC (codeOf Try.f13) [1, 1, 1, 1, 1, 0, 0, 0, 1, 0, 0]) (subC (codeOf Try.f13) [1, 1, 1, 1, 1, 0, 0, 0, 1, 0, 1]) := by kernel_rfl
theorem k13_33 : subC (codeOf Try.f13) [1, 1, 1, 1, 1, 0, 0, 0, 1, 0, 0] = .region 8 (opsOf (subC (codeOf Try.f13) [1, 1, 1, 1, 1, 0, 0, 0, 1, 0, 0])) false := by kernel_rfl
theorem r13_8 {x7 : Int} {g0 g1 g2 g3 g4 g5 g6 g8 g9 g10 g11 g12 g13 g14 g15 g16 g17 g18 g19 g20 g21 g22 g23 g24 g25 g26 g27 g28 g29 g30 g31 g32 : Value} {M : Mem} {call : CallM} {K : Array Value → Mem → R} :
    opsK Try.prog (fun _ => call) (opsOf (subC (codeOf Try.f13) [1, 1, 1, 1, 1, 0, 0, 0, 1, 0, 0])) (opsOf (subC (codeOf Try.f13) [1, 1, 1, 1, 1, 0, 0, 0, 1, 0, 0])).toList 0 #[g0, g1, g2, g3, g4, g5, g6, .int .i64 x7, g8, g9, g10, g11, g12, g13, g14, g15, g16, g17, g18, g19, g20, g21, g22, g23, g24, g25, g26, g27, g28, g29, g30, g31, g32] M K = K #[g0, g1, g2, g3, g4, g5, g6, .int .i64 (IntKind.i64.wrap ((IntKind.i64.wrap (2 * (IntKind.i64.wrap (x7 - 1)))) + 1)), g8, g9, g10, g11, g12, g13, g14, g15, g16, g17, g18, g19, g20, .int .i64 x7, .int .i64 (IntKind.i64.wrap (x7 - 1)), .int .i64 (IntKind.i64.wrap (2 * (IntKind.i64.wrap (x7 - 1)))), .int .i64 (IntKind.i64.wrap ((IntKind.i64.wrap (2 * (IntKind.i64.wrap (x7 - 1)))) + 1)), g25, g26, g27, g28, g29, g30, g31, g32] M := by kernel_rfl
theorem k13_34 : subC (codeOf Try.f13) [1, 1, 1, 1, 1, 0, 0, 0, 1, 0, 1] = .region 9 (opsOf (subC (codeOf Try.f13) [1, 1, 1, 1, 1, 0, 0, 0, 1, 0, 1])) false := by kernel_rfl
theorem r13_9 {x6 : Int} {g0 g1 g2 g3 g4 g5 g7 g8 g9 g10 g11 g12 g13 g14 g15 g16 g17 g18 g19 g20 g21 g22 g23 g24 g25 g26 g27 g28 g29 g30 g31 g32 : Value} {M : Mem} {call : CallM} {K : Array Value → Mem → R} :
    opsK Try.prog (fun _ => call) (opsOf (subC (codeOf Try.f13) [1, 1, 1, 1, 1, 0, 0, 0, 1, 0, 1])) (opsOf (subC (codeOf Try.f13) [1, 1, 1, 1, 1, 0, 0, 0, 1, 0, 1])).toList 0 #[g0, g1, g2, g3, g4, g5, .int .i64 x6, g7, g8, g9, g10, g11, g12, g13, g14, g15, g16, g17, g18, g19, g20, g21, g22, g23, g24, g25, g26, g27, g28, g29, g30, g31, g32] M K = K #[g0, g1, g2, g3, g4, g5, .int .i64 (IntKind.i64.wrap (x6 + 1)), g7, g8, g9, g10, g11, g12, g13, g14, g15, g16, g17, g18, g19, g20, g21, g22, g23, g24, .int .i64 x6, .int .i64 (IntKind.i64.wrap (x6 + 1)), g27, g28, g29, g30, g31, g32] M := by kernel_rfl
theorem k13_35 : subC (codeOf Try.f13) [1, 1, 1, 1, 1, 0, 0, 0, 0, 1, 1] = .exit 0 := by kernel_rfl
theorem k13_36 : subC (codeOf Try.f13) [1, 1, 1, 1, 1, 1] = .seq (subC (codeOf Try.f13) [1, 1, 1, 1, 1, 1, 0]) (subC (codeOf Try.f13) [1, 1, 1, 1, 1, 1, 1]) := by kernel_rfl
theorem k13_37 : subC (codeOf Try.f13) [1, 1, 1, 1, 1, 1, 0] = .region 10 (opsOf (subC (codeOf Try.f13) [1, 1, 1, 1, 1, 1, 0])) false := by kernel_rfl
theorem r13_10 {x0 : Int} {x6 : Int} {x7 : Int} {g1 g2 g3 g4 g5 g8 g9 g10 g11 g12 g13 g14 g15 g16 g17 g18 g19 g20 g21 g22 g23 g24 g25 g26 g27 g28 g29 g30 g31 g32 : Value} {M : Mem} {call : CallM} {K : Array Value → Mem → R} :
    opsK Try.prog (fun _ => call) (opsOf (subC (codeOf Try.f13) [1, 1, 1, 1, 1, 1, 0])) (opsOf (subC (codeOf Try.f13) [1, 1, 1, 1, 1, 1, 0])).toList 0 #[.int .i64 x0, g1, g2, g3, g4, g5, .int .i64 x6, .int .i64 x7, g8, g9, g10, g11, g12, g13, g14, g15, g16, g17, g18, g19, g20, g21, g22, g23, g24, g25, g26, g27, g28, g29, g30, g31, g32] M K = K #[.int .i64 x0, g1, .int .i64 x6, .int .i64 (IntKind.i64.wrap (x6 - 1)), .int .i64 (IntKind.i64.wrap (x0 - x7)), .int .i64 0, .int .i64 x6, .int .i64 x7, g8, g9, g10, g11, g12, g13, g14, g15, g16, g17, g18, g19, g20, g21, g22, g23, g24, g25, g26, .int .i64 x6, .int .i64 x6, .int .i64 (IntKind.i64.wrap (x6 - 1)), .int .i64 x0, .int .i64 x7, .int .i64 (IntKind.i64.wrap (x0 - x7))] M := by kernel_rfl
theorem k13_38 : subC (codeOf Try.f13) [1, 1, 1, 1, 1, 1, 1] = .ret := by kernel_rfl
noncomputable def S13_1 : List Item := [.code (subC (codeOf Try.f13) [1, 0, 1]), .code (subC (codeOf Try.f13) [1, 1])]
def A13_1 (x0 : Int) (x13 : Bool) (M : Mem) (Q : Value → Mem → Prop) : Prop := ∀ (g1 g2 g3 g4 g5 g6 g7 g8 g9 g10 g11 g12 g14 g15 g16 g17 g18 g19 g20 g21 g22 g23 g24 g25 g26 g27 g28 g29 g30 g31 g32 : Value), Rn Try.prog Try.f13 S13_1 #[.int .i64 x0, g1, g2, g3, g4, g5, g6, g7, g8, g9, g10, g11, g12, .bool x13, g14, g15, g16, g17, g18, g19, g20, g21, g22, g23, g24, g25, g26, g27, g28, g29, g30, g31, g32] M Q
noncomputable def S13_2 : List Item := [.code (subC (codeOf Try.f13) [1, 1, 1, 1, 1, 0, 0, 0]), .inLoop (subC (codeOf Try.f13) [1, 1, 1, 1, 1, 0, 0, 0]), .inBlock 0, .code (subC (codeOf Try.f13) [1, 1, 1, 1, 1, 1])]
def A13_2 (x0 : Int) (x6 : Int) (x7 : Int) (M : Mem) (Q : Value → Mem → Prop) : Prop := ∀ (g1 g2 g3 g4 g5 g8 g9 g10 g11 g12 g13 g14 g15 g16 g17 g18 g19 g20 g21 g22 g23 g24 g25 g26 g27 g28 g29 g30 g31 g32 : Value), Rn Try.prog Try.f13 S13_2 #[.int .i64 x0, g1, g2, g3, g4, g5, .int .i64 x6, .int .i64 x7, g8, g9, g10, g11, g12, g13, g14, g15, g16, g17, g18, g19, g20, g21, g22, g23, g24, g25, g26, g27, g28, g29, g30, g31, g32] M Q
theorem w13_0 {x0 : Int} {M : Mem} {Q : Value → Mem → Prop} (H :
    ((x0 < 1 →
     A13_1 x0 true M Q) ∧
     (¬ (x0 < 1) →
     A13_1 x0 (decide (x0 > 1024)) M Q))) :
    Cn Try.prog 13 #[.int .i64 x0] M Q := by
  refine Cn.of b13 d13 t13 ?_
  refine Rn.seq k13_0 ?_
  refine Rn.region k13_1 (fun call K => r13_0) ?_
  refine Rch.leaf ?_
  refine Rn.seq k13_2 ?_
  refine Rn.seq k13_3 ?_
  refine Rn.region k13_4 (fun call K => r13_1) ?_
  refine Rch.cB (fun h => ?_) (fun h => ?_)
  · replace H := H.1 (of_decide_eq_true h)
    refine Rch.leaf ?_
    exact H _ _ _ _ _ _ _ _ _ _ _ _ _ _ _ _ _ _ _ _ _ _ _ _ _ _ _ _ _ _ _
  · replace H := H.2 (of_decide_eq_false h)
    refine Rch.leaf ?_
    exact H _ _ _ _ _ _ _ _ _ _ _ _ _ _ _ _ _ _ _ _ _ _ _ _ _ _ _ _ _ _ _

theorem w13_1 {x0 : Int} {x13 : Bool} {M : Mem} {Q : Value → Mem → Prop} (H :
    ((x13 = true →
     Q (.tuple #[.int .i64 0, .int .i64 0, .int .i64 0, .int .i64 2]) M) ∧
     (x13 = false →
     ((x0 = 1 →
      Q (.tuple #[.int .i64 0, .int .i64 0, .int .i64 0, .int .i64 0]) M) ∧
      (x0 ≠ 1 →
      A13_2 x0 1 2 M Q))))) :
    A13_1 x0 x13 M Q := by
  intro g1 g2 g3 g4 g5 g6 g7 g8 g9 g10 g11 g12 g14 g15 g16 g17 g18 g19 g20 g21 g22 g23 g24 g25 g26 g27 g28 g29 g30 g31 g32
  refine Rn.cnd c13_5 (fun h => ?_) (fun h => ?_)
  · replace H := H.1 (h)
    refine Rn.seq k13_6 ?_
    refine Rn.region k13_7 (fun call K => r13_2) ?_
    refine Rch.leaf ?_
    exact Rn.ret k13_8 e13 H
  · replace H := H.2 (h)
    refine Rn.skip k13_10 ?_
    refine Rn.seq k13_11 ?_
    refine Rn.seq k13_12 ?_
    refine Rn.region k13_13 (fun call K => r13_3) ?_
    refine Rch.leaf ?_
    refine Rn.cnd c13_14 (fun h => ?_) (fun h => ?_)
    · replace H := H.1 (eq_of_beq h)
      refine Rn.seq k13_15 ?_
      refine Rn.region k13_16 (fun call K => r13_4) ?_
      refine Rch.leaf ?_
      exact Rn.ret k13_17 e13 H
    · replace H := H.2 (ne_of_beq_false h)
      refine Rn.skip k13_18 ?_
      refine Rn.seq k13_19 ?_
      refine Rn.region k13_20 (fun call K => r13_5) ?_
      refine Rch.leaf ?_
      refine Rn.seq k13_21 ?_
      refine Rn.region k13_22 (fun call K => r13_6) ?_
      refine Rch.leaf ?_
      refine Rn.seq k13_23 ?_
      refine Rn.block k13_24 ?_
      refine Rn.loop k13_25 ?_
      exact H _ _ _ _ _ _ _ _ _ _ _ _ _ _ _ _ _ _ _ _ _ _ _ _ _ _ _ _ _ _

theorem w13_2 {x0 : Int} {x6 : Int} {x7 : Int} {M : Mem} {Q : Value → Mem → Prop} (H :
    ((x0 > (IntKind.i64.wrap (2 * (IntKind.i64.wrap (x7 - 1)))) →
     A13_2 x0 (IntKind.i64.wrap (x6 + 1)) (IntKind.i64.wrap ((IntKind.i64.wrap (2 * (IntKind.i64.wrap (x7 - 1)))) + 1)) M Q) ∧
     (¬ (x0 > (IntKind.i64.wrap (2 * (IntKind.i64.wrap (x7 - 1))))) →
     Q (.tuple #[.int .i64 x6, .int .i64 (IntKind.i64.wrap (x6 - 1)), .int .i64 (IntKind.i64.wrap (x0 - x7)), .int .i64 0]) M))) :
    A13_2 x0 x6 x7 M Q := by
  intro g1 g2 g3 g4 g5 g8 g9 g10 g11 g12 g13 g14 g15 g16 g17 g18 g19 g20 g21 g22 g23 g24 g25 g26 g27 g28 g29 g30 g31 g32
  refine Rn.seq k13_26 ?_
  refine Rn.seq k13_27 ?_
  refine Rn.region k13_28 (fun call K => r13_7) ?_
  refine Rch.leaf ?_
  refine Rn.cnd c13_29 (fun h => ?_) (fun h => ?_)
  · replace H := H.1 (of_decide_eq_true h)
    refine Rn.skip k13_30 ?_
    refine Rn.block k13_31 ?_
    refine Rn.seq k13_32 ?_
    refine Rn.region k13_33 (fun call K => r13_8) ?_
    refine Rch.leaf ?_
    refine Rn.region k13_34 (fun call K => r13_9) ?_
    refine Rch.leaf ?_
    refine Rn.blk ?_
    refine Rn.lp ?_
    exact H _ _ _ _ _ _ _ _ _ _ _ _ _ _ _ _ _ _ _ _ _ _ _ _ _ _ _ _ _ _
  · replace H := H.2 (of_decide_eq_false h)
    refine Rn.exit k13_35 rfl ?_
    refine Rn.seq k13_36 ?_
    refine Rn.region k13_37 (fun call K => r13_10) ?_
    refine Rch.leaf ?_
    exact Rn.ret k13_38 e13 H


/-! ### math/bits.Len: function 23 -/
theorem b23 : Try.prog.funcs[23]? = some Try.f23 := by kernel_rfl
theorem d23 : Try.f23.body = some (subC (codeOf Try.f23) []) := by kernel_rfl
theorem t23 {x0 : Int} : #[.int .u64 x0] ++ Array.replicate (Try.f23.ntmps - (#[.int .u64 x0] : Array Value).size) undef = #[.int .u64 x0, undef, undef, undef, undef, undef, undef, undef] := by kernel_rfl
theorem k23_0 : subC (codeOf Try.f23) [] = .seq (subC (codeOf Try.f23) [0]) (subC (codeOf Try.f23) [1]) := by kernel_rfl
theorem k23_1 : subC (codeOf Try.f23) [0] = .region 0 (opsOf (subC (codeOf Try.f23) [0])) false := by kernel_rfl
theorem r23_0 {g0 g1 g2 g3 g4 g5 g6 g7 : Value} {M : Mem} {call : CallM} {K : Array Value → Mem → R} :
    opsK Try.prog (fun _ => call) (opsOf (subC (codeOf Try.f23) [0])) (opsOf (subC (codeOf Try.f23) [0])).toList 0 #[g0, g1, g2, g3, g4, g5, g6, g7] M K = K #[g0, g1, .int .i64 0, g3, g4, g5, g6, g7] M := by kernel_rfl
theorem k23_2 : subC (codeOf Try.f23) [1] = .seq (subC (codeOf Try.f23) [1, 0]) (subC (codeOf Try.f23) [1, 1]) := by kernel_rfl
theorem c23_3 {T : Array Value} : subC (codeOf Try.f23) [1, 0] = .cond (.const (.bool false)) (subC (codeOf Try.f23) [1, 0, 0]) (subC (codeOf Try.f23) [1, 0, 1]) ∧ okOperand (.const (.bool false)) = true ∧ evalT T (.const (.bool false)) = .bool false := ⟨by kernel_rfl, by kernel_rfl, by kernel_rfl⟩
theorem k23_4 : subC (codeOf Try.f23) [1, 0, 1] = .skip := by kernel_rfl
theorem k23_5 : subC (codeOf Try.f23) [1, 1] = .seq (subC (codeOf Try.f23) [1, 1, 0]) (subC (codeOf Try.f23) [1, 1, 1]) := by kernel_rfl
theorem k23_6 : subC (codeOf Try.f23) [1, 1, 0] = .region 2 (opsOf (subC (codeOf Try.f23) [1, 1, 0])) false := by kernel_rfl
theorem r23_2 {x0 : Int} {g1 g2 g3 g4 g5 g6 g7 : Value} {M : Mem} {call : CallM} {K : Array Value → Mem → R} :
    opsK Try.prog (fun _ => call) (opsOf (subC (codeOf Try.f23) [1, 1, 0])) (opsOf (subC (codeOf Try.f23) [1, 1, 0])).toList 0 #[.int .u64 x0, g1, g2, g3, g4, g5, g6, g7] M K = (call 28 #[.int .u64 x0] M).bind fun r_1 => (asI .i64 r_1.1).bind fun x_2 => K #[.int .u64 x0, g1, .int .i64 x_2, g3, g4, g5, .int .u64 x0, .int .i64 x_2] r_1.2 := by kernel_rfl
theorem k23_7 : subC (codeOf Try.f23) [1, 1, 1] = .ret := by kernel_rfl
theorem e23 {g0 g1 g2 g3 g4 g5 g6 g7 : Value} {M : Mem} : finish Try.prog Try.f23 #[g0, g1, g2, g3, g4, g5, g6, g7] M = some (g2, M) := by kernel_rfl
theorem w23_0 {x0 : Int} {M : Mem} {Q : Value → Mem → Prop} (H :
    Cn Try.prog 28 #[.int .u64 x0] M fun v1' N1' =>
     ∃ x2', asI .i64 v1' = some x2' ∧
     Q (.int .i64 (x2')) N1') :
    Cn Try.prog 23 #[.int .u64 x0] M Q := by
  refine Cn.of b23 d23 t23 ?_
  refine Rn.seq k23_0 ?_
  refine Rn.region k23_1 (fun call K => r23_0) ?_
  refine Rch.leaf ?_
  refine Rn.seq k23_2 ?_
  refine Rn.cnd c23_3 (fun h => ?_) (fun h => ?_)
  · exact Bool.noConfusion h
  · refine Rn.skip k23_4 ?_
    refine Rn.seq k23_5 ?_
    refine Rn.region k23_6 (fun call K => r23_2) ?_
    refine Rch.call H (fun v1' N1' H => ?_)
    obtain ⟨x2', hx2', H⟩ := H
    refine Rch.bind hx2' ?_
    refine Rch.leaf ?_
    exact Rn.ret k23_7 e23 H


/-! ### math/bits.Len32: function 27 -/
theorem b27 : Try.prog.funcs[27]? = some Try.f27 := by kernel_rfl
theorem d27 : Try.f27.body = some (subC (codeOf Try.f27) []) := by kernel_rfl
theorem t27 {x0 : Int} : #[.int .u32 x0] ++ Array.replicate (Try.f27.ntmps - (#[.int .u32 x0] : Array Value).size) undef = #[.int .u32 x0, undef, undef, undef, undef, undef, undef, undef, undef, undef, undef, undef, undef, undef, undef, undef, undef, undef, undef] := by kernel_rfl
theorem k27_0 : subC (codeOf Try.f27) [] = .seq (subC (codeOf Try.f27) [0]) (subC (codeOf Try.f27) [1]) := by kernel_rfl
theorem k27_1 : subC (codeOf Try.f27) [0] = .region 0 (opsOf (subC (codeOf Try.f27) [0])) false := by kernel_rfl
theorem r27_0 {g0 g1 g2 g3 g4 g5 g6 g7 g8 g9 g10 g11 g12 g13 g14 g15 g16 g17 g18 : Value} {M : Mem} {call : CallM} {K : Array Value → Mem → R} :
    opsK Try.prog (fun _ => call) (opsOf (subC (codeOf Try.f27) [0])) (opsOf (subC (codeOf Try.f27) [0])).toList 0 #[g0, g1, g2, g3, g4, g5, g6, g7, g8, g9, g10, g11, g12, g13, g14, g15, g16, g17, g18] M K = K #[g0, g1, .int .i64 0, g3, g4, g5, g6, g7, g8, g9, g10, g11, g12, g13, g14, g15, g16, g17, g18] M := by kernel_rfl
theorem k27_2 : subC (codeOf Try.f27) [1] = .seq (subC (codeOf Try.f27) [1, 0]) (subC (codeOf Try.f27) [1, 1]) := by kernel_rfl
theorem k27_3 : subC (codeOf Try.f27) [1, 0] = .seq (subC (codeOf Try.f27) [1, 0, 0]) (subC (codeOf Try.f27) [1, 0, 1]) := by kernel_rfl
theorem k27_4 : subC (codeOf Try.f27) [1, 0, 0] = .region 1 (opsOf (subC (codeOf Try.f27) [1, 0, 0])) false := by kernel_rfl
theorem r27_1 {x0 : Int} {g1 g2 g3 g4 g5 g6 g7 g8 g9 g10 g11 g12 g13 g14 g15 g16 g17 g18 : Value} {M : Mem} {call : CallM} {K : Array Value → Mem → R} :
    opsK Try.prog (fun _ => call) (opsOf (subC (codeOf Try.f27) [1, 0, 0])) (opsOf (subC (codeOf Try.f27) [1, 0, 0])).toList 0 #[.int .u32 x0, g1, g2, g3, g4, g5, g6, g7, g8, g9, g10, g11, g12, g13, g14, g15, g16, g17, g18] M K = K #[.int .u32 x0, g1, g2, .int .u32 x0, .bool (decide (x0 ≥ 65536)), g5, g6, g7, g8, g9, g10, g11, g12, g13, g14, g15, g16, g17, g18] M := by kernel_rfl
theorem c27_5 {x4 : Bool} {g0 g1 g2 g3 g5 g6 g7 g8 g9 g10 g11 g12 g13 g14 g15 g16 g17 g18 : Value} : subC (codeOf Try.f27) [1, 0, 1] = .cond (.tmp 4) (subC (codeOf Try.f27) [1, 0, 1, 0]) (subC (codeOf Try.f27) [1, 0, 1, 1]) ∧ okOperand (.tmp 4) = true ∧ evalT #[g0, g1, g2, g3, .bool x4, g5, g6, g7, g8, g9, g10, g11, g12, g13, g14, g15, g16, g17, g18] (.tmp 4) = .bool x4 := ⟨by kernel_rfl, by kernel_rfl, by kernel_rfl⟩
theorem k27_6 : subC (codeOf Try.f27) [1, 0, 1, 0] = .seq (subC (codeOf Try.f27) [1, 0, 1, 0, 0]) (subC (codeOf Try.f27) [1, 0, 1, 0, 1]) := by kernel_rfl
theorem k27_7 : subC (codeOf Try.f27) [1, 0, 1, 0, 0] = .region 2 (opsOf (subC (codeOf Try.f27) [1, 0, 1, 0, 0])) false := by kernel_rfl
theorem r27_2 {x0 : Int} {g1 g2 g3 g4 g5 g6 g7 g8 g9 g10 g11 g12 g13 g14 g15 g16 g17 g18 : Value} {M : Mem} {call : CallM} {K : Array Value → Mem → R} :
    opsK Try.prog (fun _ => call) (opsOf (subC (codeOf Try.f27) [1, 0, 1, 0, 0])) (opsOf (subC (codeOf Try.f27) [1, 0, 1, 0, 0])).toList 0 #[.int .u32 x0, g1, g2, g3, g4, g5, g6, g7, g8, g9, g10, g11, g12, g13, g14, g15, g16, g17, g18] M K = K #[.int .u32 (x0.fdiv (2 ^ 16)), g1, g2, g3, g4, .int .u32 x0, .int .u32 (x0.fdiv (2 ^ 16)), g7, g8, g9, g10, g11, g12, g13, g14, g15, g16, g17, g18] M := by kernel_rfl
theorem k27_8 : subC (codeOf Try.f27) [1, 0, 1, 0, 1] = .region 3 (opsOf (subC (codeOf Try.f27) [1, 0, 1, 0, 1])) false := by kernel_rfl
theorem r27_3 {g0 g1 g2 g3 g4 g5 g6 g7 g8 g9 g10 g11 g12 g13 g14 g15 g16 g17 g18 : Value} {M : Mem} {call : CallM} {K : Array Value → Mem → R} :
    opsK Try.prog (fun _ => call) (opsOf (subC (codeOf Try.f27) [1, 0, 1, 0, 1])) (opsOf (subC (codeOf Try.f27) [1, 0, 1, 0, 1])).toList 0 #[g0, g1, g2, g3, g4, g5, g6, g7, g8, g9, g10, g11, g12, g13, g14, g15, g16, g17, g18] M K = K #[g0, g1, .int .i64 16, g3, g4, g5, g6, g7, g8, g9, g10, g11, g12, g13, g14, g15, g16, g17, g18] M := by kernel_rfl
theorem k27_9 : subC (codeOf Try.f27) [1, 1] = .seq (subC (codeOf Try.f27) [1, 1, 0]) (subC (codeOf Try.f27) [1, 1, 1]) := by kernel_rfl
theorem k27_10 : subC (codeOf Try.f27) [1, 1, 0] = .seq (subC (codeOf Try.f27) [1, 1, 0, 0]) (subC (codeOf Try.f27) [1, 1, 0, 1]) := by kernel_rfl
theorem k27_11 : subC (codeOf Try.f27) [1, 1, 0, 0] = .region 4 (opsOf (subC (codeOf Try.f27) [1, 1, 0, 0])) false := by kernel_rfl
theorem r27_4 {x0 : Int} {g1 g2 g3 g4 g5 g6 g7 g8 g9 g10 g11 g12 g13 g14 g15 g16 g17 g18 : Value} {M : Mem} {call : CallM} {K : Array Value → Mem → R} :
    opsK Try.prog (fun _ => call) (opsOf (subC (codeOf Try.f27) [1, 1, 0, 0])) (opsOf (subC (codeOf Try.f27) [1, 1, 0, 0])).toList 0 #[.int .u32 x0, g1, g2, g3, g4, g5, g6, g7, g8, g9, g10, g11, g12, g13, g14, g15, g16, g17, g18] M K = K #[.int .u32 x0, g1, g2, g3, g4, g5, g6, .int .u32 x0, .bool (decide (x0 ≥ 256)), g9, g10, g11, g12, g13, g14, g15, g16, g17, g18] M := by kernel_rfl
theorem c27_12 {x8 : Bool} {g0 g1 g2 g3 g4 g5 g6 g7 g9 g10 g11 g12 g13 g14 g15 g16 g17 g18 : Value} : subC (codeOf Try.f27) [1, 1, 0, 1] = .cond (.tmp 8) (subC (codeOf Try.f27) [1, 1, 0, 1, 0]) (subC (codeOf Try.f27) [1, 1, 0, 1, 1]) ∧ okOperand (.tmp 8) = true ∧ evalT #[g0, g1, g2, g3, g4, g5, g6, g7, .bool x8, g9, g10, g11, g12, g13, g14, g15, g16, g17, g18] (.tmp 8) = .bool x8 := ⟨by kernel_rfl, by kernel_rfl, by kernel_rfl⟩
theorem k27_13 : subC (codeOf Try.f27) [1, 1, 0, 1, 0] = .seq (subC (codeOf Try.f27) [1, 1, 0, 1, 0, 0]) (subC (codeOf Try.f27) [1, 1, 0, 1, 0, 1]) := by kernel_rfl
theorem k27_14 : subC (codeOf Try.f27) [1, 1, 0, 1, 0, 0] = .region 5 (opsOf (subC (codeOf Try.f27) [1, 1, 0, 1, 0, 0])) false := by kernel_rfl
theorem r27_5 {x0 : Int} {g1 g2 g3 g4 g5 g6 g7 g8 g9 g10 g11 g12 g13 g14 g15 g16 g17 g18 : Value} {M : Mem} {call : CallM} {K : Array Value → Mem → R} :
    opsK Try.prog (fun _ => call) (opsOf (subC (codeOf Try.f27) [1, 1, 0, 1, 0, 0])) (opsOf (subC (codeOf Try.f27) [1, 1, 0, 1, 0, 0])).toList 0 #[.int .u32 x0, g1, g2, g3, g4, g5, g6, g7, g8, g9, g10, g11, g12, g13, g14, g15, g16, g17, g18] M K = K #[.int .u32 (x0.fdiv (2 ^ 8)), g1, g2, g3, g4, g5, g6, g7, g8, .int .u32 x0, .int .u32 (x0.fdiv (2 ^ 8)), g11, g12, g13, g14, g15, g16, g17, g18] M := by kernel_rfl
theorem k27_15 : subC (codeOf Try.f27) [1, 1, 0, 1, 0, 1] = .region 6 (opsOf (subC (codeOf Try.f27) [1, 1, 0, 1, 0, 1])) false := by kernel_rfl
theorem r27_6 {x2 : Int} {g0 g1 g3 g4 g5 g6 g7 g8 g9 g10 g11 g12 g13 g14 g15 g16 g17 g18 : Value} {M : Mem} {call : CallM} {K : Array Value → Mem → R} :
    opsK Try.prog (fun _ => call) (opsOf (subC (codeOf Try.f27) [1, 1, 0, 1, 0, 1])) (opsOf (subC (codeOf Try.f27) [1, 1, 0, 1, 0, 1])).toList 0 #[g0, g1, .int .i64 x2, g3, g4, g5, g6, g7, g8, g9, g10, g11, g12, g13, g14, g15, g16, g17, g18] M K = K #[g0, g1, .int .i64 (IntKind.i64.wrap (x2 + 8)), g3, g4, g5, g6, g7, g8, g9, g10, .int .i64 x2, .int .i64 (IntKind.i64.wrap (x2 + 8)), g13, g14, g15, g16, g17, g18] M := by kernel_rfl
theorem k27_16 : subC (codeOf Try.f27) [1, 1, 1] = .seq (subC (codeOf Try.f27) [1, 1, 1, 0]) (subC (codeOf Try.f27) [1, 1, 1, 1]) := by kernel_rfl
theorem k27_17 : subC (codeOf Try.f27) [1, 1, 1, 0] = .region 7 (opsOf (subC (codeOf Try.f27) [1, 1, 1, 0])) false := by kernel_rfl
theorem r27_7 {x0 : Int} {x2 : Int} {g1 g3 g4 g5 g6 g7 g8 g9 g10 g11 g12 g13 g14 g15 g16 g17 g18 : Value} {M : Mem} {call : CallM} {K : Array Value → Mem → R} :
    opsK Try.prog (fun _ => call) (opsOf (subC (codeOf Try.f27) [1, 1, 1, 0])) (opsOf (subC (codeOf Try.f27) [1, 1, 1, 0])).toList 0 #[.int .u32 x0, g1, .int .i64 x2, g3, g4, g5, g6, g7, g8, g9, g10, g11, g12, g13, g14, g15, g16, g17, g18] M K = (strV Try.prog 9 (.string str0) (.int .u8 (IntKind.u8.wrap (x0)))).bind fun v_1 => (asI .u8 v_1).bind fun x_2 => K #[.int .u32 x0, g1, .int .i64 (IntKind.i64.wrap (x2 + (IntKind.i64.wrap (x_2)))), g3, g4, g5, g6, g7, g8, g9, g10, g11, g12, .int .i64 x2, .int .u32 x0, .int .u8 (IntKind.u8.wrap (x0)), .int .u8 x_2, .int .i64 (IntKind.i64.wrap (x_2)), .int .i64 (IntKind.i64.wrap (x2 + (IntKind.i64.wrap (x_2))))] M := by kernel_rfl
theorem k27_18 : subC (codeOf Try.f27) [1, 1, 1, 1] = .ret := by kernel_rfl
theorem e27 {g0 g1 g2 g3 g4 g5 g6 g7 g8 g9 g10 g11 g12 g13 g14 g15 g16 g17 g18 : Value} {M : Mem} : finish Try.prog Try.f27 #[g0, g1, g2, g3, g4, g5, g6, g7, g8, g9, g10, g11, g12, g13, g14, g15, g16, g17, g18] M = some (g2, M) := by kernel_rfl
theorem k27_20 : subC (codeOf Try.f27) [1, 1, 0, 1, 1] = .skip := by kernel_rfl
theorem k27_21 : subC (codeOf Try.f27) [1, 0, 1, 1] = .skip := by kernel_rfl
theorem w27_0 {x0 : Int} {M : Mem} {Q : Value → Mem → Prop} (H :
    ((x0 ≥ 65536 →
     (((x0.fdiv (2 ^ 16)) ≥ 256 →
      ∃ v1', strV Try.prog 9 (.string str0) (.int .u8 (IntKind.u8.wrap (((x0.fdiv (2 ^ 16)).fdiv (2 ^ 8))))) = some v1' ∧
      ∃ x2', asI .u8 v1' = some x2' ∧
      Q (.int .i64 (IntKind.i64.wrap ((IntKind.i64.wrap (16 + 8)) + (IntKind.i64.wrap (x2'))))) M) ∧
      (¬ ((x0.fdiv (2 ^ 16)) ≥ 256) →
      ∃ v3', strV Try.prog 9 (.string str0) (.int .u8 (IntKind.u8.wrap ((x0.fdiv (2 ^ 16))))) = some v3' ∧
      ∃ x4', asI .u8 v3' = some x4' ∧
      Q (.int .i64 (IntKind.i64.wrap (16 + (IntKind.i64.wrap (x4'))))) M))) ∧
     (¬ (x0 ≥ 65536) →
     ((x0 ≥ 256 →
      ∃ v5', strV Try.prog 9 (.string str0) (.int .u8 (IntKind.u8.wrap ((x0.fdiv (2 ^ 8))))) = some v5' ∧
      ∃ x6', asI .u8 v5' = some x6' ∧
      Q (.int .i64 (IntKind.i64.wrap ((IntKind.i64.wrap (0 + 8)) + (IntKind.i64.wrap (x6'))))) M) ∧
      (¬ (x0 ≥ 256) →
      ∃ v7', strV Try.prog 9 (.string str0) (.int .u8 (IntKind.u8.wrap (x0))) = some v7' ∧
      ∃ x8', asI .u8 v7' = some x8' ∧
      Q (.int .i64 (IntKind.i64.wrap (0 + (IntKind.i64.wrap (x8'))))) M))))) :
    Cn Try.prog 27 #[.int .u32 x0] M Q := by
  refine Cn.of b27 d27 t27 ?_
  refine Rn.seq k27_0 ?_
  refine Rn.region k27_1 (fun call K => r27_0) ?_
  refine Rch.leaf ?_
  refine Rn.seq k27_2 ?_
  refine Rn.seq k27_3 ?_
  refine Rn.region k27_4 (fun call K => r27_1) ?_
  refine Rch.leaf ?_
  refine Rn.cnd c27_5 (fun h => ?_) (fun h => ?_)
  · replace H := H.1 (of_decide_eq_true h)
    refine Rn.seq k27_6 ?_
    refine Rn.region k27_7 (fun call K => r27_2) ?_
    refine Rch.leaf ?_
    refine Rn.region k27_8 (fun call K => r27_3) ?_
    refine Rch.leaf ?_
    refine Rn.seq k27_9 ?_
    refine Rn.seq k27_10 ?_
    refine Rn.region k27_11 (fun call K => r27_4) ?_
    refine Rch.leaf ?_
    refine Rn.cnd c27_12 (fun h => ?_) (fun h => ?_)
    · replace H := H.1 (of_decide_eq_true h)
      refine Rn.seq k27_13 ?_
      refine Rn.region k27_14 (fun call K => r27_5) ?_
      refine Rch.leaf ?_
      refine Rn.region k27_15 (fun call K => r27_6) ?_
      refine Rch.leaf ?_
      refine Rn.seq k27_16 ?_
      refine Rn.region k27_17 (fun call K => r27_7) ?_
      obtain ⟨v1', hv1', H⟩ := H
      refine Rch.bind hv1' ?_
      obtain ⟨x2', hx2', H⟩ := H
      refine Rch.bind hx2' ?_
      refine Rch.leaf ?_
      exact Rn.ret k27_18 e27 H
    · replace H := H.2 (of_decide_eq_false h)
      refine Rn.skip k27_20 ?_
      refine Rn.seq k27_16 ?_
      refine Rn.region k27_17 (fun call K => r27_7) ?_
      obtain ⟨v3', hv3', H⟩ := H
      refine Rch.bind hv3' ?_
      obtain ⟨x4', hx4', H⟩ := H
      refine Rch.bind hx4' ?_
      refine Rch.leaf ?_
      exact Rn.ret k27_18 e27 H
  · replace H := H.2 (of_decide_eq_false h)
    refine Rn.skip k27_21 ?_
    refine Rn.seq k27_9 ?_
    refine Rn.seq k27_10 ?_
    refine Rn.region k27_11 (fun call K => r27_4) ?_
    refine Rch.leaf ?_
    refine Rn.cnd c27_12 (fun h => ?_) (fun h => ?_)
    · replace H := H.1 (of_decide_eq_true h)
      refine Rn.seq k27_13 ?_
      refine Rn.region k27_14 (fun call K => r27_5) ?_
      refine Rch.leaf ?_
      refine Rn.region k27_15 (fun call K => r27_6) ?_
      refine Rch.leaf ?_
      refine Rn.seq k27_16 ?_
      refine Rn.region k27_17 (fun call K => r27_7) ?_
      obtain ⟨v5', hv5', H⟩ := H
      refine Rch.bind hv5' ?_
      obtain ⟨x6', hx6', H⟩ := H
      refine Rch.bind hx6' ?_
      refine Rch.leaf ?_
      exact Rn.ret k27_18 e27 H
    · replace H := H.2 (of_decide_eq_false h)
      refine Rn.skip k27_20 ?_
      refine Rn.seq k27_16 ?_
      refine Rn.region k27_17 (fun call K => r27_7) ?_
      obtain ⟨v7', hv7', H⟩ := H
      refine Rch.bind hv7' ?_
      obtain ⟨x8', hx8', H⟩ := H
      refine Rch.bind hx8' ?_
      refine Rch.leaf ?_
      exact Rn.ret k27_18 e27 H


/-! ### math/bits.Len64: function 28 -/
theorem b28 : Try.prog.funcs[28]? = some Try.f28 := by kernel_rfl
theorem d28 : Try.f28.body = some (subC (codeOf Try.f28) []) := by kernel_rfl
theorem t28 {x0 : Int} : #[.int .u64 x0] ++ Array.replicate (Try.f28.ntmps - (#[.int .u64 x0] : Array Value).size) undef = #[.int .u64 x0, undef, undef, undef, undef, undef, undef, undef, undef, undef, undef, undef, undef, undef, undef, undef, undef, undef, undef, undef, undef, undef, undef, undef, undef] := by kernel_rfl
theorem k28_0 : subC (codeOf Try.f28) [] = .seq (subC (codeOf Try.f28) [0]) (subC (codeOf Try.f28) [1]) := by kernel_rfl
theorem k28_1 : subC (codeOf Try.f28) [0] = .region 0 (opsOf (subC (codeOf Try.f28) [0])) false := by kernel_rfl
theorem r28_0 {g0 g1 g2 g3 g4 g5 g6 g7 g8 g9 g10 g11 g12 g13 g14 g15 g16 g17 g18 g19 g20 g21 g22 g23 g24 : Value} {M : Mem} {call : CallM} {K : Array Value → Mem → R} :
    opsK Try.prog (fun _ => call) (opsOf (subC (codeOf Try.f28) [0])) (opsOf (subC (codeOf Try.f28) [0])).toList 0 #[g0, g1, g2, g3, g4, g5, g6, g7, g8, g9, g10, g11, g12, g13, g14, g15, g16, g17, g18, g19, g20, g21, g22, g23, g24] M K = K #[g0, g1, .int .i64 0, g3, g4, g5, g6, g7, g8, g9, g10, g11, g12, g13, g14, g15, g16, g17, g18, g19, g20, g21, g22, g23, g24] M := by kernel_rfl
theorem k28_2 : subC (codeOf Try.f28) [1] = .seq (subC (codeOf Try.f28) [1, 0]) (subC (codeOf Try.f28) [1, 1]) := by kernel_rfl
theorem k28_3 : subC (codeOf Try.f28) [1, 0] = .seq (subC (codeOf Try.f28) [1, 0, 0]) (subC (codeOf Try.f28) [1, 0, 1]) := by kernel_rfl
theorem k28_4 : subC (codeOf Try.f28) [1, 0, 0] = .region 1 (opsOf (subC (codeOf Try.f28) [1, 0, 0])) false := by kernel_rfl
theorem r28_1 {x0 : Int} {g1 g2 g3 g4 g5 g6 g7 g8 g9 g10 g11 g12 g13 g14 g15 g16 g17 g18 g19 g20 g21 g22 g23 g24 : Value} {M : Mem} {call : CallM} {K : Array Value → Mem → R} :
    opsK Try.prog (fun _ => call) (opsOf (subC (codeOf Try.f28) [1, 0, 0])) (opsOf (subC (codeOf Try.f28) [1, 0, 0])).toList 0 #[.int .u64 x0, g1, g2, g3, g4, g5, g6, g7, g8, g9, g10, g11, g12, g13, g14, g15, g16, g17, g18, g19, g20, g21, g22, g23, g24] M K = K #[.int .u64 x0, g1, g2, .int .u64 x0, .bool (decide (x0 ≥ 4294967296)), g5, g6, g7, g8, g9, g10, g11, g12, g13, g14, g15, g16, g17, g18, g19, g20, g21, g22, g23, g24] M := by kernel_rfl
theorem c28_5 {x4 : Bool} {g0 g1 g2 g3 g5 g6 g7 g8 g9 g10 g11 g12 g13 g14 g15 g16 g17 g18 g19 g20 g21 g22 g23 g24 : Value} : subC (codeOf Try.f28) [1, 0, 1] = .cond (.tmp 4) (subC (codeOf Try.f28) [1, 0, 1, 0]) (subC (codeOf Try.f28) [1, 0, 1, 1]) ∧ okOperand (.tmp 4) = true ∧ evalT #[g0, g1, g2, g3, .bool x4, g5, g6, g7, g8, g9, g10, g11, g12, g13, g14, g15, g16, g17, g18, g19, g20, g21, g22, g23, g24] (.tmp 4) = .bool x4 := ⟨by kernel_rfl, by kernel_rfl, by kernel_rfl⟩
theorem k28_6 : subC (codeOf Try.f28) [1, 0, 1, 0] = .seq (subC (codeOf Try.f28) [1, 0, 1, 0, 0]) (subC (codeOf Try.f28) [1, 0, 1, 0, 1]) := by kernel_rfl
theorem k28_7 : subC (codeOf Try.f28) [1, 0, 1, 0, 0] = .region 2 (opsOf (subC (codeOf Try.f28) [1, 0, 1, 0, 0])) false := by kernel_rfl
theorem r28_2 {x0 : Int} {g1 g2 g3 g4 g5 g6 g7 g8 g9 g10 g11 g12 g13 g14 g15 g16 g17 g18 g19 g20 g21 g22 g23 g24 : Value} {M : Mem} {call : CallM} {K : Array Value → Mem → R} :
    opsK Try.prog (fun _ => call) (opsOf (subC (codeOf Try.f28) [1, 0, 1, 0, 0])) (opsOf (subC (codeOf Try.f28) [1, 0, 1, 0, 0])).toList 0 #[.int .u64 x0, g1, g2, g3, g4, g5, g6, g7, g8, g9, g10, g11, g12, g13, g14, g15, g16, g17, g18, g19, g20, g21, g22, g23, g24] M K = K #[.int .u64 (x0.fdiv (2 ^ 32)), g1, g2, g3, g4, .int .u64 x0, .int .u64 (x0.fdiv (2 ^ 32)), g7, g8, g9, g10, g11, g12, g13, g14, g15, g16, g17, g18, g19, g20, g21, g22, g23, g24] M := by kernel_rfl
theorem k28_8 : subC (codeOf Try.f28) [1, 0, 1, 0, 1] = .region 3 (opsOf (subC (codeOf Try.f28) [1, 0, 1, 0, 1])) false := by kernel_rfl
theorem r28_3 {g0 g1 g2 g3 g4 g5 g6 g7 g8 g9 g10 g11 g12 g13 g14 g15 g16 g17 g18 g19 g20 g21 g22 g23 g24 : Value} {M : Mem} {call : CallM} {K : Array Value → Mem → R} :
    opsK Try.prog (fun _ => call) (opsOf (subC (codeOf Try.f28) [1, 0, 1, 0, 1])) (opsOf (subC (codeOf Try.f28) [1, 0, 1, 0, 1])).toList 0 #[g0, g1, g2, g3, g4, g5, g6, g7, g8, g9, g10, g11, g12, g13, g14, g15, g16, g17, g18, g19, g20, g21, g22, g23, g24] M K = K #[g0, g1, .int .i64 32, g3, g4, g5, g6, g7, g8, g9, g10, g11, g12, g13, g14, g15, g16, g17, g18, g19, g20, g21, g22, g23, g24] M := by kernel_rfl
theorem k28_9 : subC (codeOf Try.f28) [1, 1] = .seq (subC (codeOf Try.f28) [1, 1, 0]) (subC (codeOf Try.f28) [1, 1, 1]) := by kernel_rfl
theorem k28_10 : subC (codeOf Try.f28) [1, 1, 0] = .seq (subC (codeOf Try.f28) [1, 1, 0, 0]) (subC (codeOf Try.f28) [1, 1, 0, 1]) := by kernel_rfl
theorem k28_11 : subC (codeOf Try.f28) [1, 1, 0, 0] = .region 4 (opsOf (subC (codeOf Try.f28) [1, 1, 0, 0])) false := by kernel_rfl
theorem r28_4 {x0 : Int} {g1 g2 g3 g4 g5 g6 g7 g8 g9 g10 g11 g12 g13 g14 g15 g16 g17 g18 g19 g20 g21 g22 g23 g24 : Value} {M : Mem} {call : CallM} {K : Array Value → Mem → R} :
    opsK Try.prog (fun _ => call) (opsOf (subC (codeOf Try.f28) [1, 1, 0, 0])) (opsOf (subC (codeOf Try.f28) [1, 1, 0, 0])).toList 0 #[.int .u64 x0, g1, g2, g3, g4, g5, g6, g7, g8, g9, g10, g11, g12, g13, g14, g15, g16, g17, g18, g19, g20, g21, g22, g23, g24] M K = K #[.int .u64 x0, g1, g2, g3, g4, g5, g6, .int .u64 x0, .bool (decide (x0 ≥ 65536)), g9, g10, g11, g12, g13, g14, g15, g16, g17, g18, g19, g20, g21, g22, g23, g24] M := by kernel_rfl
theorem c28_12 {x8 : Bool} {g0 g1 g2 g3 g4 g5 g6 g7 g9 g10 g11 g12 g13 g14 g15 g16 g17 g18 g19 g20 g21 g22 g23 g24 : Value} : subC (codeOf Try.f28) [1, 1, 0, 1] = .cond (.tmp 8) (subC (codeOf Try.f28) [1, 1, 0, 1, 0]) (subC (codeOf Try.f28) [1, 1, 0, 1, 1]) ∧ okOperand (.tmp 8) = true ∧ evalT #[g0, g1, g2, g3, g4, g5, g6, g7, .bool x8, g9, g10, g11, g12, g13, g14, g15, g16, g17, g18, g19, g20, g21, g22, g23, g24] (.tmp 8) = .bool x8 := ⟨by kernel_rfl, by kernel_rfl, by kernel_rfl⟩
theorem k28_13 : subC (codeOf Try.f28) [1, 1, 0, 1, 0] = .seq (subC (codeOf Try.f28) [1, 1, 0, 1, 0, 0]) (subC (codeOf Try.f28) [1, 1, 0, 1, 0, 1]) := by kernel_rfl
theorem k28_14 : subC (codeOf Try.f28) [1, 1, 0, 1, 0, 0] = .region 5 (opsOf (subC (codeOf Try.f28) [1, 1, 0, 1, 0, 0])) false := by kernel_rfl
theorem r28_5 {x0 : Int} {g1 g2 g3 g4 g5 g6 g7 g8 g9 g10 g11 g12 g13 g14 g15 g16 g17 g18 g19 g20 g21 g22 g23 g24 : Value} {M : Mem} {call : CallM} {K : Array Value → Mem → R} :
    opsK Try.prog (fun _ => call) (opsOf (subC (codeOf Try.f28) [1, 1, 0, 1, 0, 0])) (opsOf (subC (codeOf Try.f28) [1, 1, 0, 1, 0, 0])).toList 0 #[.int .u64 x0, g1, g2, g3, g4, g5, g6, g7, g8, g9, g10, g11, g12, g13, g14, g15, g16, g17, g18, g19, g20, g21, g22, g23, g24] M K = K #[.int .u64 (x0.fdiv (2 ^ 16)), g1, g2, g3, g4, g5, g6, g7, g8, .int .u64 x0, .int .u64 (x0.fdiv (2 ^ 16)), g11, g12, g13, g14, g15, g16, g17, g18, g19, g20, g21, g22, g23, g24] M := by kernel_rfl
theorem k28_15 : subC (codeOf Try.f28) [1, 1, 0, 1, 0, 1] = .region 6 (opsOf (subC (codeOf Try.f28) [1, 1, 0, 1, 0, 1])) false := by kernel_rfl
theorem r28_6 {x2 : Int} {g0 g1 g3 g4 g5 g6 g7 g8 g9 g10 g11 g12 g13 g14 g15 g16 g17 g18 g19 g20 g21 g22 g23 g24 : Value} {M : Mem} {call : CallM} {K : Array Value → Mem → R} :
    opsK Try.prog (fun _ => call) (opsOf (subC (codeOf Try.f28) [1, 1, 0, 1, 0, 1])) (opsOf (subC (codeOf Try.f28) [1, 1, 0, 1, 0, 1])).toList 0 #[g0, g1, .int .i64 x2, g3, g4, g5, g6, g7, g8, g9, g10, g11, g12, g13, g14, g15, g16, g17, g18, g19, g20, g21, g22, g23, g24] M K = K #[g0, g1, .int .i64 (IntKind.i64.wrap (x2 + 16)), g3, g4, g5, g6, g7, g8, g9, g10, .int .i64 x2, .int .i64 (IntKind.i64.wrap (x2 + 16)), g13, g14, g15, g16, g17, g18, g19, g20, g21, g22, g23, g24] M := by kernel_rfl
theorem k28_16 : subC (codeOf Try.f28) [1, 1, 1] = .seq (subC (codeOf Try.f28) [1, 1, 1, 0]) (subC (codeOf Try.f28) [1, 1, 1, 1]) := by kernel_rfl
theorem k28_17 : subC (codeOf Try.f28) [1, 1, 1, 0] = .seq (subC (codeOf Try.f28) [1, 1, 1, 0, 0]) (subC (codeOf Try.f28) [1, 1, 1, 0, 1]) := by kernel_rfl
theorem k28_18 : subC (codeOf Try.f28) [1, 1, 1, 0, 0] = .region 7 (opsOf (subC (codeOf Try.f28) [1, 1, 1, 0, 0])) false := by kernel_rfl
theorem r28_7 {x0 : Int} {g1 g2 g3 g4 g5 g6 g7 g8 g9 g10 g11 g12 g13 g14 g15 g16 g17 g18 g19 g20 g21 g22 g23 g24 : Value} {M : Mem} {call : CallM} {K : Array Value → Mem → R} :
    opsK Try.prog (fun _ => call) (opsOf (subC (codeOf Try.f28) [1, 1, 1, 0, 0])) (opsOf (subC (codeOf Try.f28) [1, 1, 1, 0, 0])).toList 0 #[.int .u64 x0, g1, g2, g3, g4, g5, g6, g7, g8, g9, g10, g11, g12, g13, g14, g15, g16, g17, g18, g19, g20, g21, g22, g23, g24] M K = K #[.int .u64 x0, g1, g2, g3, g4, g5, g6, g7, g8, g9, g10, g11, g12, .int .u64 x0, .bool (decide (x0 ≥ 256)), g15, g16, g17, g18, g19, g20, g21, g22, g23, g24] M := by kernel_rfl
theorem c28_19 {x14 : Bool} {g0 g1 g2 g3 g4 g5 g6 g7 g8 g9 g10 g11 g12 g13 g15 g16 g17 g18 g19 g20 g21 g22 g23 g24 : Value} : subC (codeOf Try.f28) [1, 1, 1, 0, 1] = .cond (.tmp 14) (subC (codeOf Try.f28) [1, 1, 1, 0, 1, 0]) (subC (codeOf Try.f28) [1, 1, 1, 0, 1, 1]) ∧ okOperand (.tmp 14) = true ∧ evalT #[g0, g1, g2, g3, g4, g5, g6, g7, g8, g9, g10, g11, g12, g13, .bool x14, g15, g16, g17, g18, g19, g20, g21, g22, g23, g24] (.tmp 14) = .bool x14 := ⟨by kernel_rfl, by kernel_rfl, by kernel_rfl⟩
theorem k28_20 : subC (codeOf Try.f28) [1, 1, 1, 0, 1, 0] = .seq (subC (codeOf Try.f28) [1, 1, 1, 0, 1, 0, 0]) (subC (codeOf Try.f28) [1, 1, 1, 0, 1, 0, 1]) := by kernel_rfl
theorem k28_21 : subC (codeOf Try.f28) [1, 1, 1, 0, 1, 0, 0] = .region 8 (opsOf (subC (codeOf Try.f28) [1, 1, 1, 0, 1, 0, 0])) false := by kernel_rfl
theorem r28_8 {x0 : Int} {g1 g2 g3 g4 g5 g6 g7 g8 g9 g10 g11 g12 g13 g14 g15 g16 g17 g18 g19 g20 g21 g22 g23 g24 : Value} {M : Mem} {call : CallM} {K : Array Value → Mem → R} :
    opsK Try.prog (fun _ => call) (opsOf (subC (codeOf Try.f28) [1, 1, 1, 0, 1, 0, 0])) (opsOf (subC (codeOf Try.f28) [1, 1, 1, 0, 1, 0, 0])).toList 0 #[.int .u64 x0, g1, g2, g3, g4, g5, g6, g7, g8, g9, g10, g11, g12, g13, g14, g15, g16, g17, g18, g19, g20, g21, g22, g23, g24] M K = K #[.int .u64 (x0.fdiv (2 ^ 8)), g1, g2, g3, g4, g5, g6, g7, g8, g9, g10, g11, g12, g13, g14, .int .u64 x0, .int .u64 (x0.fdiv (2 ^ 8)), g17, g18, g19, g20, g21, g22, g23, g24] M := by kernel_rfl
theorem k28_22 : subC (codeOf Try.f28) [1, 1, 1, 0, 1, 0, 1] = .region 9 (opsOf (subC (codeOf Try.f28) [1, 1, 1, 0, 1, 0, 1])) false := by kernel_rfl
theorem r28_9 {x2 : Int} {g0 g1 g3 g4 g5 g6 g7 g8 g9 g10 g11 g12 g13 g14 g15 g16 g17 g18 g19 g20 g21 g22 g23 g24 : Value} {M : Mem} {call : CallM} {K : Array Value → Mem → R} :
    opsK Try.prog (fun _ => call) (opsOf (subC (codeOf Try.f28) [1, 1, 1, 0, 1, 0, 1])) (opsOf (subC (codeOf Try.f28) [1, 1, 1, 0, 1, 0, 1])).toList 0 #[g0, g1, .int .i64 x2, g3, g4, g5, g6, g7, g8, g9, g10, g11, g12, g13, g14, g15, g16, g17, g18, g19, g20, g21, g22, g23, g24] M K = K #[g0, g1, .int .i64 (IntKind.i64.wrap (x2 + 8)), g3, g4, g5, g6, g7, g8, g9, g10, g11, g12, g13, g14, g15, g16, .int .i64 x2, .int .i64 (IntKind.i64.wrap (x2 + 8)), g19, g20, g21, g22, g23, g24] M := by kernel_rfl
theorem k28_23 : subC (codeOf Try.f28) [1, 1, 1, 1] = .seq (subC (codeOf Try.f28) [1, 1, 1, 1, 0]) (subC (codeOf Try.f28) [1, 1, 1, 1, 1]) := by kernel_rfl
theorem k28_24 : subC (codeOf Try.f28) [1, 1, 1, 1, 0] = .region 10 (opsOf (subC (codeOf Try.f28) [1, 1, 1, 1, 0])) false := by kernel_rfl
theorem r28_10 {x0 : Int} {x2 : Int} {g1 g3 g4 g5 g6 g7 g8 g9 g10 g11 g12 g13 g14 g15 g16 g17 g18 g19 g20 g21 g22 g23 g24 : Value} {M : Mem} {call : CallM} {K : Array Value → Mem → R} :
    opsK Try.prog (fun _ => call) (opsOf (subC (codeOf Try.f28) [1, 1, 1, 1, 0])) (opsOf (subC (codeOf Try.f28) [1, 1, 1, 1, 0])).toList 0 #[.int .u64 x0, g1, .int .i64 x2, g3, g4, g5, g6, g7, g8, g9, g10, g11, g12, g13, g14, g15, g16, g17, g18, g19, g20, g21, g22, g23, g24] M K = (strV Try.prog 9 (.string str0) (.int .u8 (IntKind.u8.wrap (x0)))).bind fun v_1 => (asI .u8 v_1).bind fun x_2 => K #[.int .u64 x0, g1, .int .i64 (IntKind.i64.wrap (x2 + (IntKind.i64.wrap (x_2)))), g3, g4, g5, g6, g7, g8, g9, g10, g11, g12, g13, g14, g15, g16, g17, g18, .int .i64 x2, .int .u64 x0, .int .u8 (IntKind.u8.wrap (x0)), .int .u8 x_2, .int .i64 (IntKind.i64.wrap (x_2)), .int .i64 (IntKind.i64.wrap (x2 + (IntKind.i64.wrap (x_2))))] M := by kernel_rfl
theorem k28_25 : subC (codeOf Try.f28) [1, 1, 1, 1, 1] = .ret := by kernel_rfl
theorem e28 {g0 g1 g2 g3 g4 g5 g6 g7 g8 g9 g10 g11 g12 g13 g14 g15 g16 g17 g18 g19 g20 g21 g22 g23 g24 : Value} {M : Mem} : finish Try.prog Try.f28 #[g0, g1, g2, g3, g4, g5, g6, g7, g8, g9, g10, g11, g12, g13, g14, g15, g16, g17, g18, g19, g20, g21, g22, g23, g24] M = some (g2, M) := by kernel_rfl
theorem k28_27 : subC (codeOf Try.f28) [1, 1, 1, 0, 1, 1] = .skip := by kernel_rfl
theorem k28_28 : subC (codeOf Try.f28) [1, 1, 0, 1, 1] = .skip := by kernel_rfl
theorem k28_29 : subC (codeOf Try.f28) [1, 0, 1, 1] = .skip := by kernel_rfl
theorem w28_0 {x0 : Int} {M : Mem} {Q : Value → Mem → Prop} (H :
    ((x0 ≥ 4294967296 →
     (((x0.fdiv (2 ^ 32)) ≥ 65536 →
      ((((x0.fdiv (2 ^ 32)).fdiv (2 ^ 16)) ≥ 256 →
       ∃ v1', strV Try.prog 9 (.string str0) (.int .u8 (IntKind.u8.wrap ((((x0.fdiv (2 ^ 32)).fdiv (2 ^ 16)).fdiv (2 ^ 8))))) = some v1' ∧
       ∃ x2', asI .u8 v1' = some x2' ∧
       Q (.int .i64 (IntKind.i64.wrap ((IntKind.i64.wrap ((IntKind.i64.wrap (32 + 16)) + 8)) + (IntKind.i64.wrap (x2'))))) M) ∧
       (¬ (((x0.fdiv (2 ^ 32)).fdiv (2 ^ 16)) ≥ 256) →
       ∃ v3', strV Try.prog 9 (.string str0) (.int .u8 (IntKind.u8.wrap (((x0.fdiv (2 ^ 32)).fdiv (2 ^ 16))))) = some v3' ∧
       ∃ x4', asI .u8 v3' = some x4' ∧
       Q (.int .i64 (IntKind.i64.wrap ((IntKind.i64.wrap (32 + 16)) + (IntKind.i64.wrap (x4'))))) M))) ∧
      (¬ ((x0.fdiv (2 ^ 32)) ≥ 65536) →
      (((x0.fdiv (2 ^ 32)) ≥ 256 →
       ∃ v5', strV Try.prog 9 (.string str0) (.int .u8 (IntKind.u8.wrap (((x0.fdiv (2 ^ 32)).fdiv (2 ^ 8))))) = some v5' ∧
       ∃ x6', asI .u8 v5' = some x6' ∧
       Q (.int .i64 (IntKind.i64.wrap ((IntKind.i64.wrap (32 + 8)) + (IntKind.i64.wrap (x6'))))) M) ∧
       (¬ ((x0.fdiv (2 ^ 32)) ≥ 256) →
       ∃ v7', strV Try.prog 9 (.string str0) (.int .u8 (IntKind.u8.wrap ((x0.fdiv (2 ^ 32))))) = some v7' ∧
       ∃ x8', asI .u8 v7' = some x8' ∧
       Q (.int .i64 (IntKind.i64.wrap (32 + (IntKind.i64.wrap (x8'))))) M))))) ∧
     (¬ (x0 ≥ 4294967296) →
     ((x0 ≥ 65536 →
      (((x0.fdiv (2 ^ 16)) ≥ 256 →
       ∃ v9', strV Try.prog 9 (.string str0) (.int .u8 (IntKind.u8.wrap (((x0.fdiv (2 ^ 16)).fdiv (2 ^ 8))))) = some v9' ∧
       ∃ x10', asI .u8 v9' = some x10' ∧
       Q (.int .i64 (IntKind.i64.wrap ((IntKind.i64.wrap ((IntKind.i64.wrap (0 + 16)) + 8)) + (IntKind.i64.wrap (x10'))))) M) ∧
       (¬ ((x0.fdiv (2 ^ 16)) ≥ 256) →
       ∃ v11', strV Try.prog 9 (.string str0) (.int .u8 (IntKind.u8.wrap ((x0.fdiv (2 ^ 16))))) = some v11' ∧
       ∃ x12', asI .u8 v11' = some x12' ∧
       Q (.int .i64 (IntKind.i64.wrap ((IntKind.i64.wrap (0 + 16)) + (IntKind.i64.wrap (x12'))))) M))) ∧
      (¬ (x0 ≥ 65536) →
      ((x0 ≥ 256 →
       ∃ v13', strV Try.prog 9 (.string str0) (.int .u8 (IntKind.u8.wrap ((x0.fdiv (2 ^ 8))))) = some v13' ∧
       ∃ x14', asI .u8 v13' = some x14' ∧
       Q (.int .i64 (IntKind.i64.wrap ((IntKind.i64.wrap (0 + 8)) + (IntKind.i64.wrap (x14'))))) M) ∧
       (¬ (x0 ≥ 256) →
       ∃ v15', strV Try.prog 9 (.string str0) (.int .u8 (IntKind.u8.wrap (x0))) = some v15' ∧
       ∃ x16', asI .u8 v15' = some x16' ∧
       Q (.int .i64 (IntKind.i64.wrap (0 + (IntKind.i64.wrap (x16'))))) M))))))) :
    Cn Try.prog 28 #[.int .u64 x0] M Q := by
  refine Cn.of b28 d28 t28 ?_
  refine Rn.seq k28_0 ?_
  refine Rn.region k28_1 (fun call K => r28_0) ?_
  refine Rch.leaf ?_
  refine Rn.seq k28_2 ?_
  refine Rn.seq k28_3 ?_
  refine Rn.region k28_4 (fun call K => r28_1) ?_
  refine Rch.leaf ?_
  refine Rn.cnd c28_5 (fun h => ?_) (fun h => ?_)
  · replace H := H.1 (of_decide_eq_true h)
    refine Rn.seq k28_6 ?_
    refine Rn.region k28_7 (fun call K => r28_2) ?_
    refine Rch.leaf ?_
    refine Rn.region k28_8 (fun call K => r28_3) ?_
    refine Rch.leaf ?_
    refine Rn.seq k28_9 ?_
    refine Rn.seq k28_10 ?_
    refine Rn.region k28_11 (fun call K => r28_4) ?_
    refine Rch.leaf ?_
    refine Rn.cnd c28_12 (fun h => ?_) (fun h => ?_)
    · replace H := H.1 (of_decide_eq_true h)
      refine Rn.seq k28_13 ?_
      refine Rn.region k28_14 (fun call K => r28_5) ?_
      refine Rch.leaf ?_
      refine Rn.region k28_15 (fun call K => r28_6) ?_
      refine Rch.leaf ?_
      refine Rn.seq k28_16 ?_
      refine Rn.seq k28_17 ?_
      refine Rn.region k28_18 (fun call K => r28_7) ?_
      refine Rch.leaf ?_
      refine Rn.cnd c28_19 (fun h => ?_) (fun h => ?_)
      · replace H := H.1 (of_decide_eq_true h)
        refine Rn.seq k28_20 ?_
        refine Rn.region k28_21 (fun call K => r28_8) ?_
        refine Rch.leaf ?_
        refine Rn.region k28_22 (fun call K => r28_9) ?_
        refine Rch.leaf ?_
        refine Rn.seq k28_23 ?_
        refine Rn.region k28_24 (fun call K => r28_10) ?_
        obtain ⟨v1', hv1', H⟩ := H
        refine Rch.bind hv1' ?_
        obtain ⟨x2', hx2', H⟩ := H
        refine Rch.bind hx2' ?_
        refine Rch.leaf ?_
        exact Rn.ret k28_25 e28 H
      · replace H := H.2 (of_decide_eq_false h)
        refine Rn.skip k28_27 ?_
        refine Rn.seq k28_23 ?_
        refine Rn.region k28_24 (fun call K => r28_10) ?_
        obtain ⟨v3', hv3', H⟩ := H
        refine Rch.bind hv3' ?_
        obtain ⟨x4', hx4', H⟩ := H
        refine Rch.bind hx4' ?_
        refine Rch.leaf ?_
        exact Rn.ret k28_25 e28 H
    · replace H := H.2 (of_decide_eq_false h)
      refine Rn.skip k28_28 ?_
      refine Rn.seq k28_16 ?_
      refine Rn.seq k28_17 ?_
      refine Rn.region k28_18 (fun call K => r28_7) ?_
      refine Rch.leaf ?_
      refine Rn.cnd c28_19 (fun h => ?_) (fun h => ?_)
      · replace H := H.1 (of_decide_eq_true h)
        refine Rn.seq k28_20 ?_
        refine Rn.region k28_21 (fun call K => r28_8) ?_
        refine Rch.leaf ?_
        refine Rn.region k28_22 (fun call K => r28_9) ?_
        refine Rch.leaf ?_
        refine Rn.seq k28_23 ?_
        refine Rn.region k28_24 (fun call K => r28_10) ?_
        obtain ⟨v5', hv5', H⟩ := H
        refine Rch.bind hv5' ?_
        obtain ⟨x6', hx6', H⟩ := H
        refine Rch.bind hx6' ?_
        refine Rch.leaf ?_
        exact Rn.ret k28_25 e28 H
      · replace H := H.2 (of_decide_eq_false h)
        refine Rn.skip k28_27 ?_
        refine Rn.seq k28_23 ?_
        refine Rn.region k28_24 (fun call K => r28_10) ?_
        obtain ⟨v7', hv7', H⟩ := H
        refine Rch.bind hv7' ?_
        obtain ⟨x8', hx8', H⟩ := H
        refine Rch.bind hx8' ?_
        refine Rch.leaf ?_
        exact Rn.ret k28_25 e28 H
  · replace H := H.2 (of_decide_eq_false h)
    refine Rn.skip k28_29 ?_
    refine Rn.seq k28_9 ?_
    refine Rn.seq k28_10 ?_
    refine Rn.region k28_11 (fun call K => r28_4) ?_
    refine Rch.leaf ?_
    refine Rn.cnd c28_12 (fun h => ?_) (fun h => ?_)
    · replace H := H.1 (of_decide_eq_true h)
      refine Rn.seq k28_13 ?_
      refine Rn.region k28_14 (fun call K => r28_5) ?_
      refine Rch.leaf ?_
      refine Rn.region k28_15 (fun call K => r28_6) ?_
      refine Rch.leaf ?_
      refine Rn.seq k28_16 ?_
      refine Rn.seq k28_17 ?_
      refine Rn.region k28_18 (fun call K => r28_7) ?_
      refine Rch.leaf ?_
      refine Rn.cnd c28_19 (fun h => ?_) (fun h => ?_)
      · replace H := H.1 (of_decide_eq_true h)
        refine Rn.seq k28_20 ?_
        refine Rn.region k28_21 (fun call K => r28_8) ?_
        refine Rch.leaf ?_
        refine Rn.region k28_22 (fun call K => r28_9) ?_
        refine Rch.leaf ?_
        refine Rn.seq k28_23 ?_
        refine Rn.region k28_24 (fun call K => r28_10) ?_
        obtain ⟨v9', hv9', H⟩ := H
        refine Rch.bind hv9' ?_
        obtain ⟨x10', hx10', H⟩ := H
        refine Rch.bind hx10' ?_
        refine Rch.leaf ?_
        exact Rn.ret k28_25 e28 H
      · replace H := H.2 (of_decide_eq_false h)
        refine Rn.skip k28_27 ?_
        refine Rn.seq k28_23 ?_
        refine Rn.region k28_24 (fun call K => r28_10) ?_
        obtain ⟨v11', hv11', H⟩ := H
        refine Rch.bind hv11' ?_
        obtain ⟨x12', hx12', H⟩ := H
        refine Rch.bind hx12' ?_
        refine Rch.leaf ?_
        exact Rn.ret k28_25 e28 H
    · replace H := H.2 (of_decide_eq_false h)
      refine Rn.skip k28_28 ?_
      refine Rn.seq k28_16 ?_
      refine Rn.seq k28_17 ?_
      refine Rn.region k28_18 (fun call K => r28_7) ?_
      refine Rch.leaf ?_
      refine Rn.cnd c28_19 (fun h => ?_) (fun h => ?_)
      · replace H := H.1 (of_decide_eq_true h)
        refine Rn.seq k28_20 ?_
        refine Rn.region k28_21 (fun call K => r28_8) ?_
        refine Rch.leaf ?_
        refine Rn.region k28_22 (fun call K => r28_9) ?_
        refine Rch.leaf ?_
        refine Rn.seq k28_23 ?_
        refine Rn.region k28_24 (fun call K => r28_10) ?_
        obtain ⟨v13', hv13', H⟩ := H
        refine Rch.bind hv13' ?_
        obtain ⟨x14', hx14', H⟩ := H
        refine Rch.bind hx14' ?_
        refine Rch.leaf ?_
        exact Rn.ret k28_25 e28 H
      · replace H := H.2 (of_decide_eq_false h)
        refine Rn.skip k28_27 ?_
        refine Rn.seq k28_23 ?_
        refine Rn.region k28_24 (fun call K => r28_10) ?_
        obtain ⟨v15', hv15', H⟩ := H
        refine Rch.bind hv15' ?_
        obtain ⟨x16', hx16', H⟩ := H
        refine Rch.bind hx16' ?_
        refine Rch.leaf ?_
        exact Rn.ret k28_25 e28 H


/-! ### zoetrope/zoetropelaw10.awake: function 14 -/
theorem b14 : Try.prog.funcs[14]? = some Try.f14 := by kernel_rfl
theorem d14 : Try.f14.body = some (subC (codeOf Try.f14) []) := by kernel_rfl
theorem t14 : #[] ++ Array.replicate (Try.f14.ntmps - (#[] : Array Value).size) undef = #[undef, undef, undef, undef, undef, undef, undef, undef, undef, undef, undef, undef, undef, undef, undef, undef, undef, undef, undef, undef, undef, undef, undef, undef, undef, undef, undef, undef, undef, undef, undef, undef, undef, undef, undef, undef, undef, undef, undef, undef] := by kernel_rfl
theorem k14_0 : subC (codeOf Try.f14) [] = .seq (subC (codeOf Try.f14) [0]) (subC (codeOf Try.f14) [1]) := by kernel_rfl
theorem k14_1 : subC (codeOf Try.f14) [0] = .region 0 (opsOf (subC (codeOf Try.f14) [0])) false := by kernel_rfl
theorem r14_0 {g0 g1 g2 g3 g4 g5 g6 g7 g8 g9 g10 g11 g12 g13 g14 g15 g16 g17 g18 g19 g20 g21 g22 g23 g24 g25 g26 g27 g28 g29 g30 g31 g32 g33 g34 g35 g36 g37 g38 g39 : Value} {M : Mem} {call : CallM} {K : Array Value → Mem → R} :
    opsK Try.prog (fun _ => call) (opsOf (subC (codeOf Try.f14) [0])) (opsOf (subC (codeOf Try.f14) [0])).toList 0 #[g0, g1, g2, g3, g4, g5, g6, g7, g8, g9, g10, g11, g12, g13, g14, g15, g16, g17, g18, g19, g20, g21, g22, g23, g24, g25, g26, g27, g28, g29, g30, g31, g32, g33, g34, g35, g36, g37, g38, g39] M K = K #[.bool false, g1, g2, g3, g4, g5, g6, g7, g8, g9, g10, g11, g12, g13, g14, g15, g16, g17, g18, g19, g20, g21, g22, g23, g24, g25, g26, g27, g28, g29, g30, g31, g32, g33, g34, g35, g36, g37, g38, g39] M := by kernel_rfl
theorem k14_2 : subC (codeOf Try.f14) [1] = .seq (subC (codeOf Try.f14) [1, 0]) (subC (codeOf Try.f14) [1, 1]) := by kernel_rfl
theorem k14_3 : subC (codeOf Try.f14) [1, 0] = .region 1 (opsOf (subC (codeOf Try.f14) [1, 0])) false := by kernel_rfl
theorem r14_1 {g0 g1 g2 g3 g4 g5 g6 g7 g8 g9 g10 g11 g12 g13 g14 g15 g16 g17 g18 g19 g20 g21 g22 g23 g24 g25 g26 g27 g28 g29 g30 g31 g32 g33 g34 g35 g36 g37 g38 g39 : Value} {M : Mem} {call : CallM} {K : Array Value → Mem → R} :
    opsK Try.prog (fun _ => call) (opsOf (subC (codeOf Try.f14) [1, 0])) (opsOf (subC (codeOf Try.f14) [1, 0])).toList 0 #[g0, g1, g2, g3, g4, g5, g6, g7, g8, g9, g10, g11, g12, g13, g14, g15, g16, g17, g18, g19, g20, g21, g22, g23, g24, g25, g26, g27, g28, g29, g30, g31, g32, g33, g34, g35, g36, g37, g38, g39] M K = (call 9 #[.int .i64 4] M).bind fun r_1 => (asU 2 r_1.1).bind fun cs_2 => (asS (cs_2.getD 0 undef)).bind fun s_3 => (asI .i64 (cs_2.getD 1 undef)).bind fun x_4 => K #[g0, .slice s_3.1 (s_3.2.1) (s_3.2.2), .int .i64 x_4, g3, g4, g5, g6, .tuple #[.slice s_3.1 (s_3.2.1) (s_3.2.2), .int .i64 x_4], .tuple #[.slice s_3.1 (s_3.2.1) (s_3.2.2), .int .i64 x_4], .slice s_3.1 (s_3.2.1) (s_3.2.2), .int .i64 x_4, g11, g12, g13, g14, g15, g16, g17, g18, g19, g20, g21, g22, g23, g24, g25, g26, g27, g28, g29, g30, g31, g32, g33, g34, g35, g36, g37, g38, g39] r_1.2 := by kernel_rfl
theorem k14_4 : subC (codeOf Try.f14) [1, 1] = .seq (subC (codeOf Try.f14) [1, 1, 0]) (subC (codeOf Try.f14) [1, 1, 1]) := by kernel_rfl
theorem k14_5 : subC (codeOf Try.f14) [1, 1, 0] = .region 2 (opsOf (subC (codeOf Try.f14) [1, 1, 0])) false := by kernel_rfl
theorem r14_2 {g0 g1 g2 g3 g4 g5 g6 g7 g8 g9 g10 g11 g12 g13 g14 g15 g16 g17 g18 g19 g20 g21 g22 g23 g24 g25 g26 g27 g28 g29 g30 g31 g32 g33 g34 g35 g36 g37 g38 g39 : Value} {M : Mem} {call : CallM} {K : Array Value → Mem → R} :
    opsK Try.prog (fun _ => call) (opsOf (subC (codeOf Try.f14) [1, 1, 0])) (opsOf (subC (codeOf Try.f14) [1, 1, 0])).toList 0 #[g0, g1, g2, g3, g4, g5, g6, g7, g8, g9, g10, g11, g12, g13, g14, g15, g16, g17, g18, g19, g20, g21, g22, g23, g24, g25, g26, g27, g28, g29, g30, g31, g32, g33, g34, g35, g36, g37, g38, g39] M K = (call 12 #[.int .i64 1024] M).bind fun r_1 => (asU 4 r_1.1).bind fun cs_2 => (asI .i64 (cs_2.getD 0 undef)).bind fun x_3 => (asI .i64 (cs_2.getD 1 undef)).bind fun x_4 => (asI .i64 (cs_2.getD 2 undef)).bind fun x_5 => (asI .i64 (cs_2.getD 3 undef)).bind fun x_6 => K #[g0, g1, g2, .int .i64 x_3, .int .i64 x_4, .int .i64 x_5, .int .i64 x_6, g7, g8, g9, g10, .tuple #[.int .i64 x_3, .int .i64 x_4, .int .i64 x_5, .int .i64 x_6], .tuple #[.int .i64 x_3, .int .i64 x_4, .int .i64 x_5, .int .i64 x_6], .int .i64 x_3, .int .i64 x_4, .int .i64 x_5, .int .i64 x_6, g17, g18, g19, g20, g21, g22, g23, g24, g25, g26, g27, g28, g29, g30, g31, g32, g33, g34, g35, g36, g37, g38, g39] r_1.2 := by kernel_rfl
theorem k14_6 : subC (codeOf Try.f14) [1, 1, 1] = .seq (subC (codeOf Try.f14) [1, 1, 1, 0]) (subC (codeOf Try.f14) [1, 1, 1, 1]) := by kernel_rfl
theorem k14_7 : subC (codeOf Try.f14) [1, 1, 1, 0] = .region 3 (opsOf (subC (codeOf Try.f14) [1, 1, 1, 0])) false := by kernel_rfl
theorem r14_3 {Ax1 : Option Addr} {lx1 : Nat} {cx1 : Nat} {x2 : Int} {x3 : Int} {x4 : Int} {x5 : Int} {x6 : Int} {g0 g7 g8 g9 g10 g11 g12 g13 g14 g15 g16 g17 g18 g19 g20 g21 g22 g23 g24 g25 g26 g27 g28 g29 g30 g31 g32 g33 g34 g35 g36 g37 g38 g39 : Value} {M : Mem} {call : CallM} {K : Array Value → Mem → R} :
    opsK Try.prog (fun _ => call) (opsOf (subC (codeOf Try.f14) [1, 1, 1, 0])) (opsOf (subC (codeOf Try.f14) [1, 1, 1, 0])).toList 0 #[g0, .slice Ax1 lx1 cx1, .int .i64 x2, .int .i64 x3, .int .i64 x4, .int .i64 x5, .int .i64 x6, g7, g8, g9, g10, g11, g12, g13, g14, g15, g16, g17, g18, g19, g20, g21, g22, g23, g24, g25, g26, g27, g28, g29, g30, g31, g32, g33, g34, g35, g36, g37, g38, g39] M K = cond (x2 == 0) (cond (x6 == 0) ((call 11 #[.slice Ax1 lx1 cx1, .slice (some ⟨2 * M.nb.size, 0, none⟩) 16 16] (M.new (.cells #[.int .i64 0, .int .i64 1, .int .i64 4, .int .i64 2, .int .i64 5, .int .i64 8, .int .i64 3, .int .i64 6, .int .i64 9, .int .i64 12, .int .i64 7, .int .i64 10, .int .i64 13, .int .i64 11, .int .i64 14, .int .i64 15] 3))).bind fun r_1 => (asB r_1.1).bind fun b_2 => cond b_2 (cond (x3 == 10) (cond (x4 == 9) (K #[.bool (x5 == 511), .slice Ax1 lx1 cx1, .int .i64 x2, .int .i64 x3, .int .i64 x4, .int .i64 x5, .int .i64 x6, g7, g8, g9, g10, g11, g12, g13, g14, g15, g16, .int .i64 x2, .bool (x2 == 0), .bool true, .int .i64 x6, .bool (x6 == 0), .bool (x6 == 0), .bool true, .slice Ax1 lx1 cx1, .slice (some ⟨2 * M.nb.size, 0, none⟩) 16 16, .bool b_2, .bool b_2, .bool true, .int .i64 x3, .bool (x3 == 10), .bool (x3 == 10), .bool true, .int .i64 x4, .bool (x4 == 9), .bool (x4 == 9), .bool true, .int .i64 x5, .bool (x5 == 511), .bool (x5 == 511)] r_1.2) (K #[.bool false, .slice Ax1 lx1 cx1, .int .i64 x2, .int .i64 x3, .int .i64 x4, .int .i64 x5, .int .i64 x6, g7, g8, g9, g10, g11, g12, g13, g14, g15, g16, .int .i64 x2, .bool (x2 == 0), .bool true, .int .i64 x6, .bool (x6 == 0), .bool (x6 == 0), .bool true, .slice Ax1 lx1 cx1, .slice (some ⟨2 * M.nb.size, 0, none⟩) 16 16, .bool b_2, .bool b_2, .bool true, .int .i64 x3, .bool (x3 == 10), .bool (x3 == 10), .bool true, .int .i64 x4, .bool (x4 == 9), .bool (x4 == 9), .bool false, undef, undef, .bool false] r_1.2)) (K #[.bool false, .slice Ax1 lx1 cx1, .int .i64 x2, .int .i64 x3, .int .i64 x4, .int .i64 x5, .int .i64 x6, g7, g8, g9, g10, g11, g12, g13, g14, g15, g16, .int .i64 x2, .bool (x2 == 0), .bool true, .int .i64 x6, .bool (x6 == 0), .bool (x6 == 0), .bool true, .slice Ax1 lx1 cx1, .slice (some ⟨2 * M.nb.size, 0, none⟩) 16 16, .bool b_2, .bool b_2, .bool true, .int .i64 x3, .bool (x3 == 10), .bool (x3 == 10), .bool false, undef, undef, .bool false, .bool false, undef, undef, .bool false] r_1.2)) (K #[.bool false, .slice Ax1 lx1 cx1, .int .i64 x2, .int .i64 x3, .int .i64 x4, .int .i64 x5, .int .i64 x6, g7, g8, g9, g10, g11, g12, g13, g14, g15, g16, .int .i64 x2, .bool (x2 == 0), .bool true, .int .i64 x6, .bool (x6 == 0), .bool (x6 == 0), .bool true, .slice Ax1 lx1 cx1, .slice (some ⟨2 * M.nb.size, 0, none⟩) 16 16, .bool b_2, .bool b_2, .bool false, undef, undef, .bool false, .bool false, undef, undef, .bool false, .bool false, undef, undef, .bool false] r_1.2)) (K #[.bool false, .slice Ax1 lx1 cx1, .int .i64 x2, .int .i64 x3, .int .i64 x4, .int .i64 x5, .int .i64 x6, g7, g8, g9, g10, g11, g12, g13, g14, g15, g16, .int .i64 x2, .bool (x2 == 0), .bool true, .int .i64 x6, .bool (x6 == 0), .bool (x6 == 0), .bool false, undef, undef, undef, .bool false, .bool false, undef, undef, .bool false, .bool false, undef, undef, .bool false, .bool false, undef, undef, .bool false] M)) (K #[.bool false, .slice Ax1 lx1 cx1, .int .i64 x2, .int .i64 x3, .int .i64 x4, .int .i64 x5, .int .i64 x6, g7, g8, g9, g10, g11, g12, g13, g14, g15, g16, .int .i64 x2, .bool (x2 == 0), .bool false, undef, undef, .bool false, .bool false, undef, undef, undef, .bool false, .bool false, undef, undef, .bool false, .bool false, undef, undef, .bool false, .bool false, undef, undef, .bool false] M) := by kernel_rfl
theorem k14_8 : subC (codeOf Try.f14) [1, 1, 1, 1] = .ret := by kernel_rfl
theorem e14 {g0 g1 g2 g3 g4 g5 g6 g7 g8 g9 g10 g11 g12 g13 g14 g15 g16 g17 g18 g19 g20 g21 g22 g23 g24 g25 g26 g27 g28 g29 g30 g31 g32 g33 g34 g35 g36 g37 g38 g39 : Value} {M : Mem} : finish Try.prog Try.f14 #[g0, g1, g2, g3, g4, g5, g6, g7, g8, g9, g10, g11, g12, g13, g14, g15, g16, g17, g18, g19, g20, g21, g22, g23, g24, g25, g26, g27, g28, g29, g30, g31, g32, g33, g34, g35, g36, g37, g38, g39] M = some (g0, M) := by kernel_rfl
theorem w14_0 {M : Mem} {Q : Value → Mem → Prop} (H :
    Cn Try.prog 9 #[.int .i64 4] M fun v1' N1' =>
     ∃ cs2', asU 2 v1' = some cs2' ∧
     ∃ s3', asS (cs2'.getD 0 undef) = some s3' ∧
     ∃ x4', asI .i64 (cs2'.getD 1 undef) = some x4' ∧
     Cn Try.prog 12 #[.int .i64 1024] N1' fun v5' N5' =>
      ∃ cs6', asU 4 v5' = some cs6' ∧
      ∃ x7', asI .i64 (cs6'.getD 0 undef) = some x7' ∧
      ∃ x8', asI .i64 (cs6'.getD 1 undef) = some x8' ∧
      ∃ x9', asI .i64 (cs6'.getD 2 undef) = some x9' ∧
      ∃ x10', asI .i64 (cs6'.getD 3 undef) = some x10' ∧
      ((x4' = 0 →
       ((x10' = 0 →
        Cn Try.prog 11 #[.slice s3'.1 s3'.2.1 s3'.2.2, .slice (some ⟨2 * N5'.nb.size, 0, none⟩) 16 16] (N5'.new (.cells #[.int .i64 0, .int .i64 1, .int .i64 4, .int .i64 2, .int .i64 5, .int .i64 8, .int .i64 3, .int .i64 6, .int .i64 9, .int .i64 12, .int .i64 7, .int .i64 10, .int .i64 13, .int .i64 11, .int .i64 14, .int .i64 15] 3)) fun v11' N11' =>
         ∃ b12', asB v11' = some b12' ∧
         ((b12' = true →
          ((x7' = 10 →
           ((x8' = 9 →
            Q (.bool (x9' == 511)) N11') ∧
            (x8' ≠ 9 →
            Q (.bool false) N11'))) ∧
           (x7' ≠ 10 →
           Q (.bool false) N11'))) ∧
          (b12' = false →
          Q (.bool false) N11'))) ∧
        (x10' ≠ 0 →
        Q (.bool false) N5'))) ∧
       (x4' ≠ 0 →
       Q (.bool false) N5'))) :
    Cn Try.prog 14 #[] M Q := by
  refine Cn.of b14 d14 t14 ?_
  refine Rn.seq k14_0 ?_
  refine Rn.region k14_1 (fun call K => r14_0) ?_
  refine Rch.leaf ?_
  refine Rn.seq k14_2 ?_
  refine Rn.region k14_3 (fun call K => r14_1) ?_
  refine Rch.call H (fun v1' N1' H => ?_)
  obtain ⟨cs2', hcs2', H⟩ := H
  refine Rch.bind hcs2' ?_
  obtain ⟨s3', hs3', H⟩ := H
  refine Rch.bind hs3' ?_
  obtain ⟨x4', hx4', H⟩ := H
  refine Rch.bind hx4' ?_
  refine Rch.leaf ?_
  refine Rn.seq k14_4 ?_
  refine Rn.region k14_5 (fun call K => r14_2) ?_
  refine Rch.call H (fun v5' N5' H => ?_)
  obtain ⟨cs6', hcs6', H⟩ := H
  refine Rch.bind hcs6' ?_
  obtain ⟨x7', hx7', H⟩ := H
  refine Rch.bind hx7' ?_
  obtain ⟨x8', hx8', H⟩ := H
  refine Rch.bind hx8' ?_
  obtain ⟨x9', hx9', H⟩ := H
  refine Rch.bind hx9' ?_
  obtain ⟨x10', hx10', H⟩ := H
  refine Rch.bind hx10' ?_
  refine Rch.leaf ?_
  refine Rn.seq k14_6 ?_
  refine Rn.region k14_7 (fun call K => r14_3) ?_
  refine Rch.cB (fun h => ?_) (fun h => ?_)
  · replace H := H.1 (eq_of_beq h)
    refine Rch.cB (fun h => ?_) (fun h => ?_)
    · replace H := H.1 (eq_of_beq h)
      refine Rch.call H (fun v11' N11' H => ?_)
      obtain ⟨b12', hb12', H⟩ := H
      refine Rch.bind hb12' ?_
      refine Rch.cB (fun h => ?_) (fun h => ?_)
      · replace H := H.1 (h)
        refine Rch.cB (fun h => ?_) (fun h => ?_)
        · replace H := H.1 (eq_of_beq h)
          refine Rch.cB (fun h => ?_) (fun h => ?_)
          · replace H := H.1 (eq_of_beq h)
            refine Rch.leaf ?_
            exact Rn.ret k14_8 e14 H
          · replace H := H.2 (ne_of_beq_false h)
            refine Rch.leaf ?_
            exact Rn.ret k14_8 e14 H
        · replace H := H.2 (ne_of_beq_false h)
          refine Rch.leaf ?_
          exact Rn.ret k14_8 e14 H
      · replace H := H.2 (h)
        refine Rch.leaf ?_
        exact Rn.ret k14_8 e14 H
    · replace H := H.2 (ne_of_beq_false h)
      refine Rch.leaf ?_
      exact Rn.ret k14_8 e14 H
  · replace H := H.2 (ne_of_beq_false h)
    refine Rch.leaf ?_
    exact Rn.ret k14_8 e14 H


/-! ### zoetrope/zoetropelaw10.ScanOrders: function 3 -/
theorem b3 : Try.prog.funcs[3]? = some Try.f3 := by kernel_rfl
theorem d3 : Try.f3.body = some (subC (codeOf Try.f3) []) := by kernel_rfl
theorem t3 {x0 : Int} {x1 : Int} : #[.int .i64 x0, .int .i64 x1] ++ Array.replicate (Try.f3.ntmps - (#[.int .i64 x0, .int .i64 x1] : Array Value).size) undef = #[.int .i64 x0, .int .i64 x1, undef, undef, undef, undef, undef, undef, undef, undef, undef, undef, undef, undef, undef, undef, undef, undef, undef, undef, undef, undef, undef, undef, undef, undef, undef, undef, undef, undef, undef, undef, undef, undef, undef, undef, undef, undef, undef, undef, undef, undef, undef, undef, undef, undef, undef, undef, undef, undef, undef, undef, undef, undef, undef, undef, undef, undef, undef, undef, undef, undef, undef, undef, undef, undef, undef, undef, undef, undef, undef, undef, undef, undef, undef, undef, undef, undef, undef, undef, undef, undef, undef, undef, undef, undef, undef, undef, undef, undef, undef] := by kernel_rfl
theorem k3_0 : subC (codeOf Try.f3) [] = .seq (subC (codeOf Try.f3) [0]) (subC (codeOf Try.f3) [1]) := by kernel_rfl
theorem k3_1 : subC (codeOf Try.f3) [0] = .region 0 (opsOf (subC (codeOf Try.f3) [0])) false := by kernel_rfl
theorem r3_0 {g0 g1 g2 g3 g4 g5 g6 g7 g8 g9 g10 g11 g12 g13 g14 g15 g16 g17 g18 g19 g20 g21 g22 g23 g24 g25 g26 g27 g28 g29 g30 g31 g32 g33 g34 g35 g36 g37 g38 g39 g40 g41 g42 g43 g44 g45 g46 g47 g48 g49 g50 g51 g52 g53 g54 g55 g56 g57 g58 g59 g60 g61 g62 g63 g64 g65 g66 g67 g68 g69 g70 g71 g72 g73 g74 g75 g76 g77 g78 g79 g80 g81 g82 g83 g84 g85 g86 g87 g88 g89 g90 : Value} {M : Mem} {call : CallM} {K : Array Value → Mem → R} :
    opsK Try.prog (fun _ => call) (opsOf (subC (codeOf Try.f3) [0])) (opsOf (subC (codeOf Try.f3) [0])).toList 0 #[g0, g1, g2, g3, g4, g5, g6, g7, g8, g9, g10, g11, g12, g13, g14, g15, g16, g17, g18, g19, g20, g21, g22, g23, g24, g25, g26, g27, g28, g29, g30, g31, g32, g33, g34, g35, g36, g37, g38, g39, g40, g41, g42, g43, g44, g45, g46, g47, g48, g49, g50, g51, g52, g53, g54, g55, g56, g57, g58, g59, g60, g61, g62, g63, g64, g65, g66, g67, g68, g69, g70, g71, g72, g73, g74, g75, g76, g77, g78, g79, g80, g81, g82, g83, g84, g85, g86, g87, g88, g89, g90] M K = K #[g0, g1, g2, g3, .bool false, g5, g6, g7, g8, g9, g10, g11, g12, g13, g14, g15, g16, g17, g18, g19, g20, g21, g22, g23, g24, g25, g26, g27, g28, g29, g30, g31, g32, g33, g34, g35, g36, g37, g38, g39, g40, g41, g42, g43, g44, g45, g46, g47, g48, g49, g50, g51, g52, g53, g54, g55, g56, g57, g58, g59, g60, g61, g62, g63, g64, g65, g66, g67, g68, g69, g70, g71, g72, g73, g74, g75, g76, g77, g78, g79, g80, g81, g82, g83, g84, g85, g86, g87, g88, g89, g90] M := by kernel_rfl
theorem k3_2 : subC (codeOf Try.f3) [1] = .seq (subC (codeOf Try.f3) [1, 0]) (subC (codeOf Try.f3) [1, 1]) := by kernel_rfl
theorem k3_3 : subC (codeOf Try.f3) [1, 0] = .region 1 (opsOf (subC (codeOf Try.f3) [1, 0])) false := by kernel_rfl
theorem r3_1 {x0 : Int} {g1 g2 g3 g4 g5 g6 g7 g8 g9 g10 g11 g12 g13 g14 g15 g16 g17 g18 g19 g20 g21 g22 g23 g24 g25 g26 g27 g28 g29 g30 g31 g32 g33 g34 g35 g36 g37 g38 g39 g40 g41 g42 g43 g44 g45 g46 g47 g48 g49 g50 g51 g52 g53 g54 g55 g56 g57 g58 g59 g60 g61 g62 g63 g64 g65 g66 g67 g68 g69 g70 g71 g72 g73 g74 g75 g76 g77 g78 g79 g80 g81 g82 g83 g84 g85 g86 g87 g88 g89 g90 : Value} {M : Mem} {call : CallM} {K : Array Value → Mem → R} :
    opsK Try.prog (fun _ => call) (opsOf (subC (codeOf Try.f3) [1, 0])) (opsOf (subC (codeOf Try.f3) [1, 0])).toList 0 #[.int .i64 x0, g1, g2, g3, g4, g5, g6, g7, g8, g9, g10, g11, g12, g13, g14, g15, g16, g17, g18, g19, g20, g21, g22, g23, g24, g25, g26, g27, g28, g29, g30, g31, g32, g33, g34, g35, g36, g37, g38, g39, g40, g41, g42, g43, g44, g45, g46, g47, g48, g49, g50, g51, g52, g53, g54, g55, g56, g57, g58, g59, g60, g61, g62, g63, g64, g65, g66, g67, g68, g69, g70, g71, g72, g73, g74, g75, g76, g77, g78, g79, g80, g81, g82, g83, g84, g85, g86, g87, g88, g89, g90] M K = (call 9 #[.int .i64 x0] M).bind fun r_1 => (asU 2 r_1.1).bind fun cs_2 => (asS (cs_2.getD 0 undef)).bind fun s_3 => (asI .i64 (cs_2.getD 1 undef)).bind fun x_4 => K #[.int .i64 x0, g1, g2, g3, g4, .slice s_3.1 (s_3.2.1) (s_3.2.2), .int .i64 x_4, g7, g8, g9, g10, g11, g12, g13, g14, g15, g16, g17, .tuple #[.slice s_3.1 (s_3.2.1) (s_3.2.2), .int .i64 x_4], .int .i64 x0, .tuple #[.slice s_3.1 (s_3.2.1) (s_3.2.2), .int .i64 x_4], .slice s_3.1 (s_3.2.1) (s_3.2.2), .int .i64 x_4, g23, g24, g25, g26, g27, g28, g29, g30, g31, g32, g33, g34, g35, g36, g37, g38, g39, g40, g41, g42, g43, g44, g45, g46, g47, g48, g49, g50, g51, g52, g53, g54, g55, g56, g57, g58, g59, g60, g61, g62, g63, g64, g65, g66, g67, g68, g69, g70, g71, g72, g73, g74, g75, g76, g77, g78, g79, g80, g81, g82, g83, g84, g85, g86, g87, g88, g89, g90] r_1.2 := by kernel_rfl
theorem k3_4 : subC (codeOf Try.f3) [1, 1] = .seq (subC (codeOf Try.f3) [1, 1, 0]) (subC (codeOf Try.f3) [1, 1, 1]) := by kernel_rfl
theorem k3_5 : subC (codeOf Try.f3) [1, 1, 0] = .region 2 (opsOf (subC (codeOf Try.f3) [1, 1, 0])) false := by kernel_rfl
theorem r3_2 {x0 : Int} {g1 g2 g3 g4 g5 g6 g7 g8 g9 g10 g11 g12 g13 g14 g15 g16 g17 g18 g19 g20 g21 g22 g23 g24 g25 g26 g27 g28 g29 g30 g31 g32 g33 g34 g35 g36 g37 g38 g39 g40 g41 g42 g43 g44 g45 g46 g47 g48 g49 g50 g51 g52 g53 g54 g55 g56 g57 g58 g59 g60 g61 g62 g63 g64 g65 g66 g67 g68 g69 g70 g71 g72 g73 g74 g75 g76 g77 g78 g79 g80 g81 g82 g83 g84 g85 g86 g87 g88 g89 g90 : Value} {M : Mem} {call : CallM} {K : Array Value → Mem → R} :
    opsK Try.prog (fun _ => call) (opsOf (subC (codeOf Try.f3) [1, 1, 0])) (opsOf (subC (codeOf Try.f3) [1, 1, 0])).toList 0 #[.int .i64 x0, g1, g2, g3, g4, g5, g6, g7, g8, g9, g10, g11, g12, g13, g14, g15, g16, g17, g18, g19, g20, g21, g22, g23, g24, g25, g26, g27, g28, g29, g30, g31, g32, g33, g34, g35, g36, g37, g38, g39, g40, g41, g42, g43, g44, g45, g46, g47, g48, g49, g50, g51, g52, g53, g54, g55, g56, g57, g58, g59, g60, g61, g62, g63, g64, g65, g66, g67, g68, g69, g70, g71, g72, g73, g74, g75, g76, g77, g78, g79, g80, g81, g82, g83, g84, g85, g86, g87, g88, g89, g90] M K = (call 9 #[.int .i64 x0] M).bind fun r_1 => (asU 2 r_1.1).bind fun cs_2 => (asS (cs_2.getD 0 undef)).bind fun s_3 => (asI .i64 (cs_2.getD 1 undef)).bind fun x_4 => K #[.int .i64 x0, g1, g2, g3, g4, g5, g6, .slice s_3.1 (s_3.2.1) (s_3.2.2), .int .i64 x_4, g9, g10, g11, g12, g13, g14, g15, g16, g17, g18, g19, g20, g21, g22, .tuple #[.slice s_3.1 (s_3.2.1) (s_3.2.2), .int .i64 x_4], .int .i64 x0, .tuple #[.slice s_3.1 (s_3.2.1) (s_3.2.2), .int .i64 x_4], .slice s_3.1 (s_3.2.1) (s_3.2.2), .int .i64 x_4, g28, g29, g30, g31, g32, g33, g34, g35, g36, g37, g38, g39, g40, g41, g42, g43, g44, g45, g46, g47, g48, g49, g50, g51, g52, g53, g54, g55, g56, g57, g58, g59, g60, g61, g62, g63, g64, g65, g66, g67, g68, g69, g70, g71, g72, g73, g74, g75, g76, g77, g78, g79, g80, g81, g82, g83, g84, g85, g86, g87, g88, g89, g90] r_1.2 := by kernel_rfl
theorem k3_6 : subC (codeOf Try.f3) [1, 1, 1] = .seq (subC (codeOf Try.f3) [1, 1, 1, 0]) (subC (codeOf Try.f3) [1, 1, 1, 1]) := by kernel_rfl
theorem k3_7 : subC (codeOf Try.f3) [1, 1, 1, 0] = .region 3 (opsOf (subC (codeOf Try.f3) [1, 1, 1, 0])) false := by kernel_rfl
theorem r3_3 {x0 : Int} {g1 g2 g3 g4 g5 g6 g7 g8 g9 g10 g11 g12 g13 g14 g15 g16 g17 g18 g19 g20 g21 g22 g23 g24 g25 g26 g27 g28 g29 g30 g31 g32 g33 g34 g35 g36 g37 g38 g39 g40 g41 g42 g43 g44 g45 g46 g47 g48 g49 g50 g51 g52 g53 g54 g55 g56 g57 g58 g59 g60 g61 g62 g63 g64 g65 g66 g67 g68 g69 g70 g71 g72 g73 g74 g75 g76 g77 g78 g79 g80 g81 g82 g83 g84 g85 g86 g87 g88 g89 g90 : Value} {M : Mem} {call : CallM} {K : Array Value → Mem → R} :
    opsK Try.prog (fun _ => call) (opsOf (subC (codeOf Try.f3) [1, 1, 1, 0])) (opsOf (subC (codeOf Try.f3) [1, 1, 1, 0])).toList 0 #[.int .i64 x0, g1, g2, g3, g4, g5, g6, g7, g8, g9, g10, g11, g12, g13, g14, g15, g16, g17, g18, g19, g20, g21, g22, g23, g24, g25, g26, g27, g28, g29, g30, g31, g32, g33, g34, g35, g36, g37, g38, g39, g40, g41, g42, g43, g44, g45, g46, g47, g48, g49, g50, g51, g52, g53, g54, g55, g56, g57, g58, g59, g60, g61, g62, g63, g64, g65, g66, g67, g68, g69, g70, g71, g72, g73, g74, g75, g76, g77, g78, g79, g80, g81, g82, g83, g84, g85, g86, g87, g88, g89, g90] M K = (call 10 #[.int .i64 x0] M).bind fun r_1 => (asU 2 r_1.1).bind fun cs_2 => (asS (cs_2.getD 0 undef)).bind fun s_3 => (asI .i64 (cs_2.getD 1 undef)).bind fun x_4 => K #[.int .i64 x0, g1, g2, g3, g4, g5, g6, g7, g8, .slice s_3.1 (s_3.2.1) (s_3.2.2), .int .i64 x_4, g11, g12, g13, g14, g15, g16, g17, g18, g19, g20, g21, g22, g23, g24, g25, g26, g27, .tuple #[.slice s_3.1 (s_3.2.1) (s_3.2.2), .int .i64 x_4], .int .i64 x0, .tuple #[.slice s_3.1 (s_3.2.1) (s_3.2.2), .int .i64 x_4], .slice s_3.1 (s_3.2.1) (s_3.2.2), .int .i64 x_4, g33, g34, g35, g36, g37, g38, g39, g40, g41, g42, g43, g44, g45, g46, g47, g48, g49, g50, g51, g52, g53, g54, g55, g56, g57, g58, g59, g60, g61, g62, g63, g64, g65, g66, g67, g68, g69, g70, g71, g72, g73, g74, g75, g76, g77, g78, g79, g80, g81, g82, g83, g84, g85, g86, g87, g88, g89, g90] r_1.2 := by kernel_rfl
theorem k3_8 : subC (codeOf Try.f3) [1, 1, 1, 1] = .seq (subC (codeOf Try.f3) [1, 1, 1, 1, 0]) (subC (codeOf Try.f3) [1, 1, 1, 1, 1]) := by kernel_rfl
theorem k3_9 : subC (codeOf Try.f3) [1, 1, 1, 1, 0] = .seq (subC (codeOf Try.f3) [1, 1, 1, 1, 0, 0]) (subC (codeOf Try.f3) [1, 1, 1, 1, 0, 1]) := by kernel_rfl
theorem k3_10 : subC (codeOf Try.f3) [1, 1, 1, 1, 0, 0] = .region 4 (opsOf (subC (codeOf Try.f3) [1, 1, 1, 1, 0, 0])) false := by kernel_rfl
theorem r3_4 {Ax5 : Option Addr} {lx5 : Nat} {cx5 : Nat} {x6 : Int} {Ax9 : Option Addr} {lx9 : Nat} {cx9 : Nat} {x10 : Int} {g0 g1 g2 g3 g4 g7 g8 g11 g12 g13 g14 g15 g16 g17 g18 g19 g20 g21 g22 g23 g24 g25 g26 g27 g28 g29 g30 g31 g32 g33 g34 g35 g36 g37 g38 g39 g40 g41 g42 g43 g44 g45 g46 g47 g48 g49 g50 g51 g52 g53 g54 g55 g56 g57 g58 g59 g60 g61 g62 g63 g64 g65 g66 g67 g68 g69 g70 g71 g72 g73 g74 g75 g76 g77 g78 g79 g80 g81 g82 g83 g84 g85 g86 g87 g88 g89 g90 : Value} {M : Mem} {call : CallM} {K : Array Value → Mem → R} :
    opsK Try.prog (fun _ => call) (opsOf (subC (codeOf Try.f3) [1, 1, 1, 1, 0, 0])) (opsOf (subC (codeOf Try.f3) [1, 1, 1, 1, 0, 0])).toList 0 #[g0, g1, g2, g3, g4, .slice Ax5 lx5 cx5, .int .i64 x6, g7, g8, .slice Ax9 lx9 cx9, .int .i64 x10, g11, g12, g13, g14, g15, g16, g17, g18, g19, g20, g21, g22, g23, g24, g25, g26, g27, g28, g29, g30, g31, g32, g33, g34, g35, g36, g37, g38, g39, g40, g41, g42, g43, g44, g45, g46, g47, g48, g49, g50, g51, g52, g53, g54, g55, g56, g57, g58, g59, g60, g61, g62, g63, g64, g65, g66, g67, g68, g69, g70, g71, g72, g73, g74, g75, g76, g77, g78, g79, g80, g81, g82, g83, g84, g85, g86, g87, g88, g89, g90] M K = cond (x6 != x10) (K #[g0, g1, g2, g3, g4, .slice Ax5 lx5 cx5, .int .i64 x6, g7, g8, .slice Ax9 lx9 cx9, .int .i64 x10, g11, g12, g13, g14, g15, g16, g17, g18, g19, g20, g21, g22, g23, g24, g25, g26, g27, g28, g29, g30, g31, g32, .int .i64 x6, .int .i64 x10, .bool (x6 != x10), .bool true, undef, undef, undef, undef, .bool true, g42, g43, g44, g45, g46, g47, g48, g49, g50, g51, g52, g53, g54, g55, g56, g57, g58, g59, g60, g61, g62, g63, g64, g65, g66, g67, g68, g69, g70, g71, g72, g73, g74, g75, g76, g77, g78, g79, g80, g81, g82, g83, g84, g85, g86, g87, g88, g89, g90] M) ((call 11 #[.slice Ax5 lx5 cx5, .slice Ax9 lx9 cx9] M).bind fun r_1 => (asB r_1.1).bind fun b_2 => K #[g0, g1, g2, g3, g4, .slice Ax5 lx5 cx5, .int .i64 x6, g7, g8, .slice Ax9 lx9 cx9, .int .i64 x10, g11, g12, g13, g14, g15, g16, g17, g18, g19, g20, g21, g22, g23, g24, g25, g26, g27, g28, g29, g30, g31, g32, .int .i64 x6, .int .i64 x10, .bool (x6 != x10), .bool false, .slice Ax5 lx5 cx5, .slice Ax9 lx9 cx9, .bool b_2, .bool (!b_2), .bool (!b_2), g42, g43, g44, g45, g46, g47, g48, g49, g50, g51, g52, g53, g54, g55, g56, g57, g58, g59, g60, g61, g62, g63, g64, g65, g66, g67, g68, g69, g70, g71, g72, g73, g74, g75, g76, g77, g78, g79, g80, g81, g82, g83, g84, g85, g86, g87, g88, g89, g90] r_1.2) := by kernel_rfl
theorem c3_11 {x41 : Bool} {g0 g1 g2 g3 g4 g5 g6 g7 g8 g9 g10 g11 g12 g13 g14 g15 g16 g17 g18 g19 g20 g21 g22 g23 g24 g25 g26 g27 g28 g29 g30 g31 g32 g33 g34 g35 g36 g37 g38 g39 g40 g42 g43 g44 g45 g46 g47 g48 g49 g50 g51 g52 g53 g54 g55 g56 g57 g58 g59 g60 g61 g62 g63 g64 g65 g66 g67 g68 g69 g70 g71 g72 g73 g74 g75 g76 g77 g78 g79 g80 g81 g82 g83 g84 g85 g86 g87 g88 g89 g90 : Value} : subC (codeOf Try.f3) [1, 1, 1, 1, 0, 1] = .cond (.tmp 41) (subC (codeOf Try.f3) [1, 1, 1, 1, 0, 1, 0]) (subC (codeOf Try.f3) [1, 1, 1, 1, 0, 1, 1]) ∧ okOperand (.tmp 41) = true ∧ evalT #[g0, g1, g2, g3, g4, g5, g6, g7, g8, g9, g10, g11, g12, g13, g14, g15, g16, g17, g18, g19, g20, g21, g22, g23, g24, g25, g26, g27, g28, g29, g30, g31, g32, g33, g34, g35, g36, g37, g38, g39, g40, .bool x41, g42, g43, g44, g45, g46, g47, g48, g49, g50, g51, g52, g53, g54, g55, g56, g57, g58, g59, g60, g61, g62, g63, g64, g65, g66, g67, g68, g69, g70, g71, g72, g73, g74, g75, g76, g77, g78, g79, g80, g81, g82, g83, g84, g85, g86, g87, g88, g89, g90] (.tmp 41) = .bool x41 := ⟨by kernel_rfl, by kernel_rfl, by kernel_rfl⟩
theorem k3_12 : subC (codeOf Try.f3) [1, 1, 1, 1, 0, 1, 0] = .seq (subC (codeOf Try.f3) [1, 1, 1, 1, 0, 1, 0, 0]) (subC (codeOf Try.f3) [1, 1, 1, 1, 0, 1, 0, 1]) := by kernel_rfl
theorem k3_13 : subC (codeOf Try.f3) [1, 1, 1, 1, 0, 1, 0, 0] = .region 5 (opsOf (subC (codeOf Try.f3) [1, 1, 1, 1, 0, 1, 0, 0])) false := by kernel_rfl
theorem r3_5 {g0 g1 g2 g3 g4 g5 g6 g7 g8 g9 g10 g11 g12 g13 g14 g15 g16 g17 g18 g19 g20 g21 g22 g23 g24 g25 g26 g27 g28 g29 g30 g31 g32 g33 g34 g35 g36 g37 g38 g39 g40 g41 g42 g43 g44 g45 g46 g47 g48 g49 g50 g51 g52 g53 g54 g55 g56 g57 g58 g59 g60 g61 g62 g63 g64 g65 g66 g67 g68 g69 g70 g71 g72 g73 g74 g75 g76 g77 g78 g79 g80 g81 g82 g83 g84 g85 g86 g87 g88 g89 g90 : Value} {M : Mem} {call : CallM} {K : Array Value → Mem → R} :
    opsK Try.prog (fun _ => call) (opsOf (subC (codeOf Try.f3) [1, 1, 1, 1, 0, 1, 0, 0])) (opsOf (subC (codeOf Try.f3) [1, 1, 1, 1, 0, 1, 0, 0])).toList 0 #[g0, g1, g2, g3, g4, g5, g6, g7, g8, g9, g10, g11, g12, g13, g14, g15, g16, g17, g18, g19, g20, g21, g22, g23, g24, g25, g26, g27, g28, g29, g30, g31, g32, g33, g34, g35, g36, g37, g38, g39, g40, g41, g42, g43, g44, g45, g46, g47, g48, g49, g50, g51, g52, g53, g54, g55, g56, g57, g58, g59, g60, g61, g62, g63, g64, g65, g66, g67, g68, g69, g70, g71, g72, g73, g74, g75, g76, g77, g78, g79, g80, g81, g82, g83, g84, g85, g86, g87, g88, g89, g90] M K = K #[g0, g1, g2, g3, .bool false, g5, g6, g7, g8, g9, g10, g11, g12, g13, g14, g15, g16, g17, g18, g19, g20, g21, g22, g23, g24, g25, g26, g27, g28, g29, g30, g31, g32, g33, g34, g35, g36, g37, g38, g39, g40, g41, g42, g43, g44, g45, g46, g47, g48, g49, g50, g51, g52, g53, g54, g55, g56, g57, g58, g59, g60, g61, g62, g63, g64, g65, g66, g67, g68, g69, g70, g71, g72, g73, g74, g75, g76, g77, g78, g79, g80, g81, g82, g83, g84, g85, g86, g87, g88, g89, g90] M := by kernel_rfl
theorem k3_14 : subC (codeOf Try.f3) [1, 1, 1, 1, 0, 1, 0, 1] = .ret := by kernel_rfl
theorem e3 {g0 g1 g2 g3 g4 g5 g6 g7 g8 g9 g10 g11 g12 g13 g14 g15 g16 g17 g18 g19 g20 g21 g22 g23 g24 g25 g26 g27 g28 g29 g30 g31 g32 g33 g34 g35 g36 g37 g38 g39 g40 g41 g42 g43 g44 g45 g46 g47 g48 g49 g50 g51 g52 g53 g54 g55 g56 g57 g58 g59 g60 g61 g62 g63 g64 g65 g66 g67 g68 g69 g70 g71 g72 g73 g74 g75 g76 g77 g78 g79 g80 g81 g82 g83 g84 g85 g86 g87 g88 g89 g90 : Value} {M : Mem} : finish Try.prog Try.f3 #[g0, g1, g2, g3, g4, g5, g6, g7, g8, g9, g10, g11, g12, g13, g14, g15, g16, g17, g18, g19, g20, g21, g22, g23, g24, g25, g26, g27, g28, g29, g30, g31, g32, g33, g34, g35, g36, g37, g38, g39, g40, g41, g42, g43, g44, g45, g46, g47, g48, g49, g50, g51, g52, g53, g54, g55, g56, g57, g58, g59, g60, g61, g62, g63, g64, g65, g66, g67, g68, g69, g70, g71, g72, g73, g74, g75, g76, g77, g78, g79, g80, g81, g82, g83, g84, g85, g86, g87, g88, g89, g90] M = some (g4, M) := by kernel_rfl
theorem k3_16 : subC (codeOf Try.f3) [1, 1, 1, 1, 0, 1, 1] = .skip := by kernel_rfl
theorem k3_17 : subC (codeOf Try.f3) [1, 1, 1, 1, 1] = .seq (subC (codeOf Try.f3) [1, 1, 1, 1, 1, 0]) (subC (codeOf Try.f3) [1, 1, 1, 1, 1, 1]) := by kernel_rfl
theorem k3_18 : subC (codeOf Try.f3) [1, 1, 1, 1, 1, 0] = .seq (subC (codeOf Try.f3) [1, 1, 1, 1, 1, 0, 0]) (subC (codeOf Try.f3) [1, 1, 1, 1, 1, 0, 1]) := by kernel_rfl
theorem k3_19 : subC (codeOf Try.f3) [1, 1, 1, 1, 1, 0, 0] = .region 6 (opsOf (subC (codeOf Try.f3) [1, 1, 1, 1, 1, 0, 0])) false := by kernel_rfl
theorem r3_6 {g0 g1 g2 g3 g4 g5 g6 g7 g8 g9 g10 g11 g12 g13 g14 g15 g16 g17 g18 g19 g20 g21 g22 g23 g24 g25 g26 g27 g28 g29 g30 g31 g32 g33 g34 g35 g36 g37 g38 g39 g40 g41 g42 g43 g44 g45 g46 g47 g48 g49 g50 g51 g52 g53 g54 g55 g56 g57 g58 g59 g60 g61 g62 g63 g64 g65 g66 g67 g68 g69 g70 g71 g72 g73 g74 g75 g76 g77 g78 g79 g80 g81 g82 g83 g84 g85 g86 g87 g88 g89 g90 : Value} {M : Mem} {call : CallM} {K : Array Value → Mem → R} :
    opsK Try.prog (fun _ => call) (opsOf (subC (codeOf Try.f3) [1, 1, 1, 1, 1, 0, 0])) (opsOf (subC (codeOf Try.f3) [1, 1, 1, 1, 1, 0, 0])).toList 0 #[g0, g1, g2, g3, g4, g5, g6, g7, g8, g9, g10, g11, g12, g13, g14, g15, g16, g17, g18, g19, g20, g21, g22, g23, g24, g25, g26, g27, g28, g29, g30, g31, g32, g33, g34, g35, g36, g37, g38, g39, g40, g41, g42, g43, g44, g45, g46, g47, g48, g49, g50, g51, g52, g53, g54, g55, g56, g57, g58, g59, g60, g61, g62, g63, g64, g65, g66, g67, g68, g69, g70, g71, g72, g73, g74, g75, g76, g77, g78, g79, g80, g81, g82, g83, g84, g85, g86, g87, g88, g89, g90] M K = K #[g0, g1, g2, g3, g4, g5, g6, g7, g8, g9, g10, .int .i64 0, g12, g13, g14, g15, g16, g17, g18, g19, g20, g21, g22, g23, g24, g25, g26, g27, g28, g29, g30, g31, g32, g33, g34, g35, g36, g37, g38, g39, g40, g41, g42, g43, g44, g45, g46, g47, g48, g49, g50, g51, g52, g53, g54, g55, g56, g57, g58, g59, g60, g61, g62, g63, g64, g65, g66, g67, g68, g69, g70, g71, g72, g73, g74, g75, g76, g77, g78, g79, g80, g81, g82, g83, g84, g85, g86, g87, g88, g89, g90] M := by kernel_rfl
theorem k3_20 : subC (codeOf Try.f3) [1, 1, 1, 1, 1, 0, 1] = .block 0 (subC (codeOf Try.f3) [1, 1, 1, 1, 1, 0, 1, 0]) := by kernel_rfl
theorem k3_21 : subC (codeOf Try.f3) [1, 1, 1, 1, 1, 0, 1, 0] = .loop (subC (codeOf Try.f3) [1, 1, 1, 1, 1, 0, 1, 0, 0]) := by kernel_rfl
theorem k3_22 : subC (codeOf Try.f3) [1, 1, 1, 1, 1, 0, 1, 0, 0] = .seq (subC (codeOf Try.f3) [1, 1, 1, 1, 1, 0, 1, 0, 0, 0]) (subC (codeOf Try.f3) [1, 1, 1, 1, 1, 0, 1, 0, 0, 1]) := by kernel_rfl
theorem k3_23 : subC (codeOf Try.f3) [1, 1, 1, 1, 1, 0, 1, 0, 0, 0] = .seq (subC (codeOf Try.f3) [1, 1, 1, 1, 1, 0, 1, 0, 0, 0, 0]) (subC (codeOf Try.f3) [1, 1, 1, 1, 1, 0, 1, 0, 0, 0, 1]) := by kernel_rfl
theorem k3_24 : subC (codeOf Try.f3) [1, 1, 1, 1, 1, 0, 1, 0, 0, 0, 0] = .region 7 (opsOf (subC (codeOf Try.f3) [1, 1, 1, 1, 1, 0, 1, 0, 0, 0, 0])) false := by kernel_rfl
theorem r3_7 {Ax5 : Option Addr} {lx5 : Nat} {cx5 : Nat} {x11 : Int} {g0 g1 g2 g3 g4 g6 g7 g8 g9 g10 g12 g13 g14 g15 g16 g17 g18 g19 g20 g21 g22 g23 g24 g25 g26 g27 g28 g29 g30 g31 g32 g33 g34 g35 g36 g37 g38 g39 g40 g41 g42 g43 g44 g45 g46 g47 g48 g49 g50 g51 g52 g53 g54 g55 g56 g57 g58 g59 g60 g61 g62 g63 g64 g65 g66 g67 g68 g69 g70 g71 g72 g73 g74 g75 g76 g77 g78 g79 g80 g81 g82 g83 g84 g85 g86 g87 g88 g89 g90 : Value} {M : Mem} {call : CallM} {K : Array Value → Mem → R} :
    opsK Try.prog (fun _ => call) (opsOf (subC (codeOf Try.f3) [1, 1, 1, 1, 1, 0, 1, 0, 0, 0, 0])) (opsOf (subC (codeOf Try.f3) [1, 1, 1, 1, 1, 0, 1, 0, 0, 0, 0])).toList 0 #[g0, g1, g2, g3, g4, .slice Ax5 lx5 cx5, g6, g7, g8, g9, g10, .int .i64 x11, g12, g13, g14, g15, g16, g17, g18, g19, g20, g21, g22, g23, g24, g25, g26, g27, g28, g29, g30, g31, g32, g33, g34, g35, g36, g37, g38, g39, g40, g41, g42, g43, g44, g45, g46, g47, g48, g49, g50, g51, g52, g53, g54, g55, g56, g57, g58, g59, g60, g61, g62, g63, g64, g65, g66, g67, g68, g69, g70, g71, g72, g73, g74, g75, g76, g77, g78, g79, g80, g81, g82, g83, g84, g85, g86, g87, g88, g89, g90] M K = K #[g0, g1, g2, g3, g4, .slice Ax5 lx5 cx5, g6, g7, g8, g9, g10, .int .i64 x11, g12, g13, g14, g15, g16, g17, g18, g19, g20, g21, g22, g23, g24, g25, g26, g27, g28, g29, g30, g31, g32, g33, g34, g35, g36, g37, g38, g39, g40, g41, .int .i64 x11, .slice Ax5 lx5 cx5, .int .i64 ((lx5 : Int)), .bool (decide (x11 < ((lx5 : Int)))), g46, g47, g48, g49, g50, g51, g52, g53, g54, g55, g56, g57, g58, g59, g60, g61, g62, g63, g64, g65, g66, g67, g68, g69, g70, g71, g72, g73, g74, g75, g76, g77, g78, g79, g80, g81, g82, g83, g84, g85, g86, g87, g88, g89, g90] M := by kernel_rfl
theorem c3_25 {x45 : Bool} {g0 g1 g2 g3 g4 g5 g6 g7 g8 g9 g10 g11 g12 g13 g14 g15 g16 g17 g18 g19 g20 g21 g22 g23 g24 g25 g26 g27 g28 g29 g30 g31 g32 g33 g34 g35 g36 g37 g38 g39 g40 g41 g42 g43 g44 g46 g47 g48 g49 g50 g51 g52 g53 g54 g55 g56 g57 g58 g59 g60 g61 g62 g63 g64 g65 g66 g67 g68 g69 g70 g71 g72 g73 g74 g75 g76 g77 g78 g79 g80 g81 g82 g83 g84 g85 g86 g87 g88 g89 g90 : Value} : subC (codeOf Try.f3) [1, 1, 1, 1, 1, 0, 1, 0, 0, 0, 1] = .cond (.tmp 45) (subC (codeOf Try.f3) [1, 1, 1, 1, 1, 0, 1, 0, 0, 0, 1, 0]) (subC (codeOf Try.f3) [1, 1, 1, 1, 1, 0, 1, 0, 0, 0, 1, 1]) ∧ okOperand (.tmp 45) = true ∧ evalT #[g0, g1, g2, g3, g4, g5, g6, g7, g8, g9, g10, g11, g12, g13, g14, g15, g16, g17, g18, g19, g20, g21, g22, g23, g24, g25, g26, g27, g28, g29, g30, g31, g32, g33, g34, g35, g36, g37, g38, g39, g40, g41, g42, g43, g44, .bool x45, g46, g47, g48, g49, g50, g51, g52, g53, g54, g55, g56, g57, g58, g59, g60, g61, g62, g63, g64, g65, g66, g67, g68, g69, g70, g71, g72, g73, g74, g75, g76, g77, g78, g79, g80, g81, g82, g83, g84, g85, g86, g87, g88, g89, g90] (.tmp 45) = .bool x45 := ⟨by kernel_rfl, by kernel_rfl, by kernel_rfl⟩
theorem k3_26 : subC (codeOf Try.f3) [1, 1, 1, 1, 1, 0, 1, 0, 0, 0, 1, 0] = .skip := by kernel_rfl
theorem k3_27 : subC (codeOf Try.f3) [1, 1, 1, 1, 1, 0, 1, 0, 0, 1] = .seq (subC (codeOf Try.f3) [1, 1, 1, 1, 1, 0, 1, 0, 0, 1, 0]) (subC (codeOf Try.f3) [1, 1, 1, 1, 1, 0, 1, 0, 0, 1, 1]) := by kernel_rfl
theorem k3_28 : subC (codeOf Try.f3) [1, 1, 1, 1, 1, 0, 1, 0, 0, 1, 0] = .block 1 (subC (codeOf Try.f3) [1, 1, 1, 1, 1, 0, 1, 0, 0, 1, 0, 0]) := by kernel_rfl
theorem k3_29 : subC (codeOf Try.f3) [1, 1, 1, 1, 1, 0, 1, 0, 0, 1, 0, 0] = .region 9 (opsOf (subC (codeOf Try.f3) [1, 1, 1, 1, 1, 0, 1, 0, 0, 1, 0, 0])) false := by kernel_rfl
theorem r3_9 {Ax5 : Option Addr} {lx5 : Nat} {cx5 : Nat} {x11 : Int} {g0 g1 g2 g3 g4 g6 g7 g8 g9 g10 g12 g13 g14 g15 g16 g17 g18 g19 g20 g21 g22 g23 g24 g25 g26 g27 g28 g29 g30 g31 g32 g33 g34 g35 g36 g37 g38 g39 g40 g41 g42 g43 g44 g45 g46 g47 g48 g49 g50 g51 g52 g53 g54 g55 g56 g57 g58 g59 g60 g61 g62 g63 g64 g65 g66 g67 g68 g69 g70 g71 g72 g73 g74 g75 g76 g77 g78 g79 g80 g81 g82 g83 g84 g85 g86 g87 g88 g89 g90 : Value} {M : Mem} {call : CallM} {K : Array Value → Mem → R} :
    opsK Try.prog (fun _ => call) (opsOf (subC (codeOf Try.f3) [1, 1, 1, 1, 1, 0, 1, 0, 0, 1, 0, 0])) (opsOf (subC (codeOf Try.f3) [1, 1, 1, 1, 1, 0, 1, 0, 0, 1, 0, 0])).toList 0 #[g0, g1, g2, g3, g4, .slice Ax5 lx5 cx5, g6, g7, g8, g9, g10, .int .i64 x11, g12, g13, g14, g15, g16, g17, g18, g19, g20, g21, g22, g23, g24, g25, g26, g27, g28, g29, g30, g31, g32, g33, g34, g35, g36, g37, g38, g39, g40, g41, g42, g43, g44, g45, g46, g47, g48, g49, g50, g51, g52, g53, g54, g55, g56, g57, g58, g59, g60, g61, g62, g63, g64, g65, g66, g67, g68, g69, g70, g71, g72, g73, g74, g75, g76, g77, g78, g79, g80, g81, g82, g83, g84, g85, g86, g87, g88, g89, g90] M K = (indexAddrP Try.prog 22 (.slice Ax5 lx5 cx5) (.int .i64 x11)).bind fun v_1 => (asP v_1).bind fun p_2 => (p_2).bind fun a_3 => (M.put a_3.block a_3.off (.int .i64 (-1))).bind fun M_4 => K #[g0, g1, g2, g3, g4, .slice Ax5 lx5 cx5, g6, g7, g8, g9, g10, .int .i64 x11, g12, g13, g14, g15, g16, g17, g18, g19, g20, g21, g22, g23, g24, g25, g26, g27, g28, g29, g30, g31, g32, g33, g34, g35, g36, g37, g38, g39, g40, g41, g42, g43, g44, g45, g46, g47, .slice Ax5 lx5 cx5, .int .i64 x11, .pointer p_2, g51, g52, g53, g54, g55, g56, g57, g58, g59, g60, g61, g62, g63, g64, g65, g66, g67, g68, g69, g70, g71, g72, g73, g74, g75, g76, g77, g78, g79, g80, g81, g82, g83, g84, g85, g86, g87, g88, g89, g90] M_4 := by kernel_rfl
theorem k3_30 : subC (codeOf Try.f3) [1, 1, 1, 1, 1, 0, 1, 0, 0, 1, 1] = .region 8 (opsOf (subC (codeOf Try.f3) [1, 1, 1, 1, 1, 0, 1, 0, 0, 1, 1])) false := by kernel_rfl
theorem r3_8 {x11 : Int} {g0 g1 g2 g3 g4 g5 g6 g7 g8 g9 g10 g12 g13 g14 g15 g16 g17 g18 g19 g20 g21 g22 g23 g24 g25 g26 g27 g28 g29 g30 g31 g32 g33 g34 g35 g36 g37 g38 g39 g40 g41 g42 g43 g44 g45 g46 g47 g48 g49 g50 g51 g52 g53 g54 g55 g56 g57 g58 g59 g60 g61 g62 g63 g64 g65 g66 g67 g68 g69 g70 g71 g72 g73 g74 g75 g76 g77 g78 g79 g80 g81 g82 g83 g84 g85 g86 g87 g88 g89 g90 : Value} {M : Mem} {call : CallM} {K : Array Value → Mem → R} :
    opsK Try.prog (fun _ => call) (opsOf (subC (codeOf Try.f3) [1, 1, 1, 1, 1, 0, 1, 0, 0, 1, 1])) (opsOf (subC (codeOf Try.f3) [1, 1, 1, 1, 1, 0, 1, 0, 0, 1, 1])).toList 0 #[g0, g1, g2, g3, g4, g5, g6, g7, g8, g9, g10, .int .i64 x11, g12, g13, g14, g15, g16, g17, g18, g19, g20, g21, g22, g23, g24, g25, g26, g27, g28, g29, g30, g31, g32, g33, g34, g35, g36, g37, g38, g39, g40, g41, g42, g43, g44, g45, g46, g47, g48, g49, g50, g51, g52, g53, g54, g55, g56, g57, g58, g59, g60, g61, g62, g63, g64, g65, g66, g67, g68, g69, g70, g71, g72, g73, g74, g75, g76, g77, g78, g79, g80, g81, g82, g83, g84, g85, g86, g87, g88, g89, g90] M K = K #[g0, g1, g2, g3, g4, g5, g6, g7, g8, g9, g10, .int .i64 (IntKind.i64.wrap (x11 + 1)), g12, g13, g14, g15, g16, g17, g18, g19, g20, g21, g22, g23, g24, g25, g26, g27, g28, g29, g30, g31, g32, g33, g34, g35, g36, g37, g38, g39, g40, g41, g42, g43, g44, g45, .int .i64 x11, .int .i64 (IntKind.i64.wrap (x11 + 1)), g48, g49, g50, g51, g52, g53, g54, g55, g56, g57, g58, g59, g60, g61, g62, g63, g64, g65, g66, g67, g68, g69, g70, g71, g72, g73, g74, g75, g76, g77, g78, g79, g80, g81, g82, g83, g84, g85, g86, g87, g88, g89, g90] M := by kernel_rfl
theorem k3_31 : subC (codeOf Try.f3) [1, 1, 1, 1, 1, 0, 1, 0, 0, 0, 1, 1] = .exit 0 := by kernel_rfl
theorem k3_32 : subC (codeOf Try.f3) [1, 1, 1, 1, 1, 1] = .seq (subC (codeOf Try.f3) [1, 1, 1, 1, 1, 1, 0]) (subC (codeOf Try.f3) [1, 1, 1, 1, 1, 1, 1]) := by kernel_rfl
theorem k3_33 : subC (codeOf Try.f3) [1, 1, 1, 1, 1, 1, 0] = .region 10 (opsOf (subC (codeOf Try.f3) [1, 1, 1, 1, 1, 1, 0])) false := by kernel_rfl
theorem r3_10 {x1 : Int} {g0 g2 g3 g4 g5 g6 g7 g8 g9 g10 g11 g12 g13 g14 g15 g16 g17 g18 g19 g20 g21 g22 g23 g24 g25 g26 g27 g28 g29 g30 g31 g32 g33 g34 g35 g36 g37 g38 g39 g40 g41 g42 g43 g44 g45 g46 g47 g48 g49 g50 g51 g52 g53 g54 g55 g56 g57 g58 g59 g60 g61 g62 g63 g64 g65 g66 g67 g68 g69 g70 g71 g72 g73 g74 g75 g76 g77 g78 g79 g80 g81 g82 g83 g84 g85 g86 g87 g88 g89 g90 : Value} {M : Mem} {call : CallM} {K : Array Value → Mem → R} :
    opsK Try.prog (fun _ => call) (opsOf (subC (codeOf Try.f3) [1, 1, 1, 1, 1, 1, 0])) (opsOf (subC (codeOf Try.f3) [1, 1, 1, 1, 1, 1, 0])).toList 0 #[g0, .int .i64 x1, g2, g3, g4, g5, g6, g7, g8, g9, g10, g11, g12, g13, g14, g15, g16, g17, g18, g19, g20, g21, g22, g23, g24, g25, g26, g27, g28, g29, g30, g31, g32, g33, g34, g35, g36, g37, g38, g39, g40, g41, g42, g43, g44, g45, g46, g47, g48, g49, g50, g51, g52, g53, g54, g55, g56, g57, g58, g59, g60, g61, g62, g63, g64, g65, g66, g67, g68, g69, g70, g71, g72, g73, g74, g75, g76, g77, g78, g79, g80, g81, g82, g83, g84, g85, g86, g87, g88, g89, g90] M K = (call 12 #[.int .i64 x1] M).bind fun r_1 => (asU 4 r_1.1).bind fun cs_2 => (asI .i64 (cs_2.getD 0 undef)).bind fun x_3 => (asI .i64 (cs_2.getD 1 undef)).bind fun x_4 => (asI .i64 (cs_2.getD 2 undef)).bind fun x_5 => (asI .i64 (cs_2.getD 3 undef)).bind fun x_6 => K #[g0, .int .i64 x1, g2, g3, g4, g5, .int .i64 x_6, g7, g8, g9, g10, g11, .int .i64 x_3, .int .i64 x_4, .int .i64 x_5, g15, g16, g17, g18, g19, g20, g21, g22, g23, g24, g25, g26, g27, g28, g29, g30, g31, g32, g33, g34, g35, g36, g37, g38, g39, g40, g41, g42, g43, g44, g45, g46, g47, g48, g49, g50, .tuple #[.int .i64 x_3, .int .i64 x_4, .int .i64 x_5, .int .i64 x_6], .int .i64 x1, .tuple #[.int .i64 x_3, .int .i64 x_4, .int .i64 x_5, .int .i64 x_6], .int .i64 x_3, .int .i64 x_4, .int .i64 x_5, .int .i64 x_6, g58, g59, g60, g61, g62, g63, g64, g65, g66, g67, g68, g69, g70, g71, g72, g73, g74, g75, g76, g77, g78, g79, g80, g81, g82, g83, g84, g85, g86, g87, g88, g89, g90] r_1.2 := by kernel_rfl
theorem k3_34 : subC (codeOf Try.f3) [1, 1, 1, 1, 1, 1, 1] = .seq (subC (codeOf Try.f3) [1, 1, 1, 1, 1, 1, 1, 0]) (subC (codeOf Try.f3) [1, 1, 1, 1, 1, 1, 1, 1]) := by kernel_rfl
theorem k3_35 : subC (codeOf Try.f3) [1, 1, 1, 1, 1, 1, 1, 0] = .region 11 (opsOf (subC (codeOf Try.f3) [1, 1, 1, 1, 1, 1, 1, 0])) false := by kernel_rfl
theorem r3_11 {x1 : Int} {g0 g2 g3 g4 g5 g6 g7 g8 g9 g10 g11 g12 g13 g14 g15 g16 g17 g18 g19 g20 g21 g22 g23 g24 g25 g26 g27 g28 g29 g30 g31 g32 g33 g34 g35 g36 g37 g38 g39 g40 g41 g42 g43 g44 g45 g46 g47 g48 g49 g50 g51 g52 g53 g54 g55 g56 g57 g58 g59 g60 g61 g62 g63 g64 g65 g66 g67 g68 g69 g70 g71 g72 g73 g74 g75 g76 g77 g78 g79 g80 g81 g82 g83 g84 g85 g86 g87 g88 g89 g90 : Value} {M : Mem} {call : CallM} {K : Array Value → Mem → R} :
    opsK Try.prog (fun _ => call) (opsOf (subC (codeOf Try.f3) [1, 1, 1, 1, 1, 1, 1, 0])) (opsOf (subC (codeOf Try.f3) [1, 1, 1, 1, 1, 1, 1, 0])).toList 0 #[g0, .int .i64 x1, g2, g3, g4, g5, g6, g7, g8, g9, g10, g11, g12, g13, g14, g15, g16, g17, g18, g19, g20, g21, g22, g23, g24, g25, g26, g27, g28, g29, g30, g31, g32, g33, g34, g35, g36, g37, g38, g39, g40, g41, g42, g43, g44, g45, g46, g47, g48, g49, g50, g51, g52, g53, g54, g55, g56, g57, g58, g59, g60, g61, g62, g63, g64, g65, g66, g67, g68, g69, g70, g71, g72, g73, g74, g75, g76, g77, g78, g79, g80, g81, g82, g83, g84, g85, g86, g87, g88, g89, g90] M K = (call 13 #[.int .i64 x1] M).bind fun r_1 => (asU 4 r_1.1).bind fun cs_2 => (asI .i64 (cs_2.getD 0 undef)).bind fun x_3 => (asI .i64 (cs_2.getD 1 undef)).bind fun x_4 => (asI .i64 (cs_2.getD 2 undef)).bind fun x_5 => (asI .i64 (cs_2.getD 3 undef)).bind fun x_6 => K #[g0, .int .i64 x1, g2, g3, g4, g5, g6, g7, g8, g9, .int .i64 x_6, g11, g12, g13, g14, .int .i64 x_3, .int .i64 x_4, .int .i64 x_5, g18, g19, g20, g21, g22, g23, g24, g25, g26, g27, g28, g29, g30, g31, g32, g33, g34, g35, g36, g37, g38, g39, g40, g41, g42, g43, g44, g45, g46, g47, g48, g49, g50, g51, g52, g53, g54, g55, g56, g57, .tuple #[.int .i64 x_3, .int .i64 x_4, .int .i64 x_5, .int .i64 x_6], .int .i64 x1, .tuple #[.int .i64 x_3, .int .i64 x_4, .int .i64 x_5, .int .i64 x_6], .int .i64 x_3, .int .i64 x_4, .int .i64 x_5, .int .i64 x_6, g65, g66, g67, g68, g69, g70, g71, g72, g73, g74, g75, g76, g77, g78, g79, g80, g81, g82, g83, g84, g85, g86, g87, g88, g89, g90] r_1.2 := by kernel_rfl
theorem k3_36 : subC (codeOf Try.f3) [1, 1, 1, 1, 1, 1, 1, 1] = .seq (subC (codeOf Try.f3) [1, 1, 1, 1, 1, 1, 1, 1, 0]) (subC (codeOf Try.f3) [1, 1, 1, 1, 1, 1, 1, 1, 1]) := by kernel_rfl
theorem k3_37 : subC (codeOf Try.f3) [1, 1, 1, 1, 1, 1, 1, 1, 0] = .region 12 (opsOf (subC (codeOf Try.f3) [1, 1, 1, 1, 1, 1, 1, 1, 0])) false := by kernel_rfl
theorem r3_12 {x6 : Int} {Ax7 : Option Addr} {lx7 : Nat} {cx7 : Nat} {Ax9 : Option Addr} {lx9 : Nat} {cx9 : Nat} {x10 : Int} {x12 : Int} {x13 : Int} {x14 : Int} {x15 : Int} {x16 : Int} {x17 : Int} {g0 g1 g2 g3 g4 g5 g8 g11 g18 g19 g20 g21 g22 g23 g24 g25 g26 g27 g28 g29 g30 g31 g32 g33 g34 g35 g36 g37 g38 g39 g40 g41 g42 g43 g44 g45 g46 g47 g48 g49 g50 g51 g52 g53 g54 g55 g56 g57 g58 g59 g60 g61 g62 g63 g64 g65 g66 g67 g68 g69 g70 g71 g72 g73 g74 g75 g76 g77 g78 g79 g80 g81 g82 g83 g84 g85 g86 g87 g88 g89 g90 : Value} {M : Mem} {call : CallM} {K : Array Value → Mem → R} :
    opsK Try.prog (fun _ => call) (opsOf (subC (codeOf Try.f3) [1, 1, 1, 1, 1, 1, 1, 1, 0])) (opsOf (subC (codeOf Try.f3) [1, 1, 1, 1, 1, 1, 1, 1, 0])).toList 0 #[g0, g1, g2, g3, g4, g5, .int .i64 x6, .slice Ax7 lx7 cx7, g8, .slice Ax9 lx9 cx9, .int .i64 x10, g11, .int .i64 x12, .int .i64 x13, .int .i64 x14, .int .i64 x15, .int .i64 x16, .int .i64 x17, g18, g19, g20, g21, g22, g23, g24, g25, g26, g27, g28, g29, g30, g31, g32, g33, g34, g35, g36, g37, g38, g39, g40, g41, g42, g43, g44, g45, g46, g47, g48, g49, g50, g51, g52, g53, g54, g55, g56, g57, g58, g59, g60, g61, g62, g63, g64, g65, g66, g67, g68, g69, g70, g71, g72, g73, g74, g75, g76, g77, g78, g79, g80, g81, g82, g83, g84, g85, g86, g87, g88, g89, g90] M K = (call 11 #[.slice Ax7 lx7 cx7, .slice Ax9 lx9 cx9] M).bind fun r_1 => (asB r_1.1).bind fun b_2 => cond b_2 (cond (x12 == x15) (cond (x13 == x16) (cond (x14 == x17) (cond (x6 == x10) ((call 14 #[] r_1.2).bind fun r_3 => (asB r_3.1).bind fun b_4 => K #[g0, g1, g2, g3, .bool b_4, g5, .int .i64 x6, .slice Ax7 lx7 cx7, g8, .slice Ax9 lx9 cx9, .int .i64 x10, g11, .int .i64 x12, .int .i64 x13, .int .i64 x14, .int .i64 x15, .int .i64 x16, .int .i64 x17, g18, g19, g20, g21, g22, g23, g24, g25, g26, g27, g28, g29, g30, g31, g32, g33, g34, g35, g36, g37, g38, g39, g40, g41, g42, g43, g44, g45, g46, g47, g48, g49, g50, g51, g52, g53, g54, g55, g56, g57, g58, g59, g60, g61, g62, g63, g64, .slice Ax7 lx7 cx7, .slice Ax9 lx9 cx9, .bool b_2, .bool true, .int .i64 x12, .int .i64 x15, .bool (x12 == x15), .bool (x12 == x15), .bool true, .int .i64 x13, .int .i64 x16, .bool (x13 == x16), .bool (x13 == x16), .bool true, .int .i64 x14, .int .i64 x17, .bool (x14 == x17), .bool (x14 == x17), .bool true, .int .i64 x6, .int .i64 x10, .bool (x6 == x10), .bool (x6 == x10), .bool true, .bool b_4, .bool b_4] r_3.2) (K #[g0, g1, g2, g3, .bool false, g5, .int .i64 x6, .slice Ax7 lx7 cx7, g8, .slice Ax9 lx9 cx9, .int .i64 x10, g11, .int .i64 x12, .int .i64 x13, .int .i64 x14, .int .i64 x15, .int .i64 x16, .int .i64 x17, g18, g19, g20, g21, g22, g23, g24, g25, g26, g27, g28, g29, g30, g31, g32, g33, g34, g35, g36, g37, g38, g39, g40, g41, g42, g43, g44, g45, g46, g47, g48, g49, g50, g51, g52, g53, g54, g55, g56, g57, g58, g59, g60, g61, g62, g63, g64, .slice Ax7 lx7 cx7, .slice Ax9 lx9 cx9, .bool b_2, .bool true, .int .i64 x12, .int .i64 x15, .bool (x12 == x15), .bool (x12 == x15), .bool true, .int .i64 x13, .int .i64 x16, .bool (x13 == x16), .bool (x13 == x16), .bool true, .int .i64 x14, .int .i64 x17, .bool (x14 == x17), .bool (x14 == x17), .bool true, .int .i64 x6, .int .i64 x10, .bool (x6 == x10), .bool (x6 == x10), .bool false, undef, .bool false] r_1.2)) (K #[g0, g1, g2, g3, .bool false, g5, .int .i64 x6, .slice Ax7 lx7 cx7, g8, .slice Ax9 lx9 cx9, .int .i64 x10, g11, .int .i64 x12, .int .i64 x13, .int .i64 x14, .int .i64 x15, .int .i64 x16, .int .i64 x17, g18, g19, g20, g21, g22, g23, g24, g25, g26, g27, g28, g29, g30, g31, g32, g33, g34, g35, g36, g37, g38, g39, g40, g41, g42, g43, g44, g45, g46, g47, g48, g49, g50, g51, g52, g53, g54, g55, g56, g57, g58, g59, g60, g61, g62, g63, g64, .slice Ax7 lx7 cx7, .slice Ax9 lx9 cx9, .bool b_2, .bool true, .int .i64 x12, .int .i64 x15, .bool (x12 == x15), .bool (x12 == x15), .bool true, .int .i64 x13, .int .i64 x16, .bool (x13 == x16), .bool (x13 == x16), .bool true, .int .i64 x14, .int .i64 x17, .bool (x14 == x17), .bool (x14 == x17), .bool false, undef, undef, undef, .bool false, .bool false, undef, .bool false] r_1.2)) (K #[g0, g1, g2, g3, .bool false, g5, .int .i64 x6, .slice Ax7 lx7 cx7, g8, .slice Ax9 lx9 cx9, .int .i64 x10, g11, .int .i64 x12, .int .i64 x13, .int .i64 x14, .int .i64 x15, .int .i64 x16, .int .i64 x17, g18, g19, g20, g21, g22, g23, g24, g25, g26, g27, g28, g29, g30, g31, g32, g33, g34, g35, g36, g37, g38, g39, g40, g41, g42, g43, g44, g45, g46, g47, g48, g49, g50, g51, g52, g53, g54, g55, g56, g57, g58, g59, g60, g61, g62, g63, g64, .slice Ax7 lx7 cx7, .slice Ax9 lx9 cx9, .bool b_2, .bool true, .int .i64 x12, .int .i64 x15, .bool (x12 == x15), .bool (x12 == x15), .bool true, .int .i64 x13, .int .i64 x16, .bool (x13 == x16), .bool (x13 == x16), .bool false, undef, undef, undef, .bool false, .bool false, undef, undef, undef, .bool false, .bool false, undef, .bool false] r_1.2)) (K #[g0, g1, g2, g3, .bool false, g5, .int .i64 x6, .slice Ax7 lx7 cx7, g8, .slice Ax9 lx9 cx9, .int .i64 x10, g11, .int .i64 x12, .int .i64 x13, .int .i64 x14, .int .i64 x15, .int .i64 x16, .int .i64 x17, g18, g19, g20, g21, g22, g23, g24, g25, g26, g27, g28, g29, g30, g31, g32, g33, g34, g35, g36, g37, g38, g39, g40, g41, g42, g43, g44, g45, g46, g47, g48, g49, g50, g51, g52, g53, g54, g55, g56, g57, g58, g59, g60, g61, g62, g63, g64, .slice Ax7 lx7 cx7, .slice Ax9 lx9 cx9, .bool b_2, .bool true, .int .i64 x12, .int .i64 x15, .bool (x12 == x15), .bool (x12 == x15), .bool false, undef, undef, undef, .bool false, .bool false, undef, undef, undef, .bool false, .bool false, undef, undef, undef, .bool false, .bool false, undef, .bool false] r_1.2)) (K #[g0, g1, g2, g3, .bool false, g5, .int .i64 x6, .slice Ax7 lx7 cx7, g8, .slice Ax9 lx9 cx9, .int .i64 x10, g11, .int .i64 x12, .int .i64 x13, .int .i64 x14, .int .i64 x15, .int .i64 x16, .int .i64 x17, g18, g19, g20, g21, g22, g23, g24, g25, g26, g27, g28, g29, g30, g31, g32, g33, g34, g35, g36, g37, g38, g39, g40, g41, g42, g43, g44, g45, g46, g47, g48, g49, g50, g51, g52, g53, g54, g55, g56, g57, g58, g59, g60, g61, g62, g63, g64, .slice Ax7 lx7 cx7, .slice Ax9 lx9 cx9, .bool b_2, .bool false, undef, undef, undef, .bool false, .bool false, undef, undef, undef, .bool false, .bool false, undef, undef, undef, .bool false, .bool false, undef, undef, undef, .bool false, .bool false, undef, .bool false] r_1.2) := by kernel_rfl
theorem k3_38 : subC (codeOf Try.f3) [1, 1, 1, 1, 1, 1, 1, 1, 1] = .ret := by kernel_rfl
noncomputable def S3_1 : List Item := [.code (subC (codeOf Try.f3) [1, 1, 1, 1, 0, 1]), .code (subC (codeOf Try.f3) [1, 1, 1, 1, 1])]
def A3_1 (x1 : Int) (Ax5 : Option Addr) (lx5 : Nat) (cx5 : Nat) (Ax7 : Option Addr) (lx7 : Nat) (cx7 : Nat) (Ax9 : Option Addr) (lx9 : Nat) (cx9 : Nat) (x41 : Bool) (M : Mem) (Q : Value → Mem → Prop) : Prop := ∀ (g0 g2 g3 g4 g6 g8 g10 g11 g12 g13 g14 g15 g16 g17 g18 g19 g20 g21 g22 g23 g24 g25 g26 g27 g28 g29 g30 g31 g32 g33 g34 g35 g36 g37 g38 g39 g40 g42 g43 g44 g45 g46 g47 g48 g49 g50 g51 g52 g53 g54 g55 g56 g57 g58 g59 g60 g61 g62 g63 g64 g65 g66 g67 g68 g69 g70 g71 g72 g73 g74 g75 g76 g77 g78 g79 g80 g81 g82 g83 g84 g85 g86 g87 g88 g89 g90 : Value), Rn Try.prog Try.f3 S3_1 #[g0, .int .i64 x1, g2, g3, g4, .slice Ax5 lx5 cx5, g6, .slice Ax7 lx7 cx7, g8, .slice Ax9 lx9 cx9, g10, g11, g12, g13, g14, g15, g16, g17, g18, g19, g20, g21, g22, g23, g24, g25, g26, g27, g28, g29, g30, g31, g32, g33, g34, g35, g36, g37, g38, g39, g40, .bool x41, g42, g43, g44, g45, g46, g47, g48, g49, g50, g51, g52, g53, g54, g55, g56, g57, g58, g59, g60, g61, g62, g63, g64, g65, g66, g67, g68, g69, g70, g71, g72, g73, g74, g75, g76, g77, g78, g79, g80, g81, g82, g83, g84, g85, g86, g87, g88, g89, g90] M Q
noncomputable def S3_2 : List Item := [.code (subC (codeOf Try.f3) [1, 1, 1, 1, 1, 0, 1, 0, 0]), .inLoop (subC (codeOf Try.f3) [1, 1, 1, 1, 1, 0, 1, 0, 0]), .inBlock 0, .code (subC (codeOf Try.f3) [1, 1, 1, 1, 1, 1])]
def A3_2 (x1 : Int) (Ax5 : Option Addr) (lx5 : Nat) (cx5 : Nat) (Ax7 : Option Addr) (lx7 : Nat) (cx7 : Nat) (Ax9 : Option Addr) (lx9 : Nat) (cx9 : Nat) (x11 : Int) (M : Mem) (Q : Value → Mem → Prop) : Prop := ∀ (g0 g2 g3 g4 g6 g8 g10 g12 g13 g14 g15 g16 g17 g18 g19 g20 g21 g22 g23 g24 g25 g26 g27 g28 g29 g30 g31 g32 g33 g34 g35 g36 g37 g38 g39 g40 g41 g42 g43 g44 g45 g46 g47 g48 g49 g50 g51 g52 g53 g54 g55 g56 g57 g58 g59 g60 g61 g62 g63 g64 g65 g66 g67 g68 g69 g70 g71 g72 g73 g74 g75 g76 g77 g78 g79 g80 g81 g82 g83 g84 g85 g86 g87 g88 g89 g90 : Value), Rn Try.prog Try.f3 S3_2 #[g0, .int .i64 x1, g2, g3, g4, .slice Ax5 lx5 cx5, g6, .slice Ax7 lx7 cx7, g8, .slice Ax9 lx9 cx9, g10, .int .i64 x11, g12, g13, g14, g15, g16, g17, g18, g19, g20, g21, g22, g23, g24, g25, g26, g27, g28, g29, g30, g31, g32, g33, g34, g35, g36, g37, g38, g39, g40, g41, g42, g43, g44, g45, g46, g47, g48, g49, g50, g51, g52, g53, g54, g55, g56, g57, g58, g59, g60, g61, g62, g63, g64, g65, g66, g67, g68, g69, g70, g71, g72, g73, g74, g75, g76, g77, g78, g79, g80, g81, g82, g83, g84, g85, g86, g87, g88, g89, g90] M Q
theorem w3_0 {x0 : Int} {x1 : Int} {M : Mem} {Q : Value → Mem → Prop} (H :
    Cn Try.prog 9 #[.int .i64 x0] M fun v1' N1' =>
     ∃ cs2', asU 2 v1' = some cs2' ∧
     ∃ s3', asS (cs2'.getD 0 undef) = some s3' ∧
     ∃ x4', asI .i64 (cs2'.getD 1 undef) = some x4' ∧
     Cn Try.prog 9 #[.int .i64 x0] N1' fun v5' N5' =>
      ∃ cs6', asU 2 v5' = some cs6' ∧
      ∃ s7', asS (cs6'.getD 0 undef) = some s7' ∧
      ∃ x8', asI .i64 (cs6'.getD 1 undef) = some x8' ∧
      Cn Try.prog 10 #[.int .i64 x0] N5' fun v9' N9' =>
       ∃ cs10', asU 2 v9' = some cs10' ∧
       ∃ s11', asS (cs10'.getD 0 undef) = some s11' ∧
       ∃ x12', asI .i64 (cs10'.getD 1 undef) = some x12' ∧
       ((x4' ≠ x12' →
        A3_1 x1 s3'.1 s3'.2.1 s3'.2.2 s7'.1 s7'.2.1 s7'.2.2 s11'.1 s11'.2.1 s11'.2.2 true N9' Q) ∧
        (x4' = x12' →
        Cn Try.prog 11 #[.slice s3'.1 s3'.2.1 s3'.2.2, .slice s11'.1 s11'.2.1 s11'.2.2] N9' fun v13' N13' =>
         ∃ b14', asB v13' = some b14' ∧
         A3_1 x1 s3'.1 s3'.2.1 s3'.2.2 s7'.1 s7'.2.1 s7'.2.2 s11'.1 s11'.2.1 s11'.2.2 (!b14') N13' Q))) :
    Cn Try.prog 3 #[.int .i64 x0, .int .i64 x1] M Q := by
  refine Cn.of b3 d3 t3 ?_
  refine Rn.seq k3_0 ?_
  refine Rn.region k3_1 (fun call K => r3_0) ?_
  refine Rch.leaf ?_
  refine Rn.seq k3_2 ?_
  refine Rn.region k3_3 (fun call K => r3_1) ?_
  refine Rch.call H (fun v1' N1' H => ?_)
  obtain ⟨cs2', hcs2', H⟩ := H
  refine Rch.bind hcs2' ?_
  obtain ⟨s3', hs3', H⟩ := H
  refine Rch.bind hs3' ?_
  obtain ⟨x4', hx4', H⟩ := H
  refine Rch.bind hx4' ?_
  refine Rch.leaf ?_
  refine Rn.seq k3_4 ?_
  refine Rn.region k3_5 (fun call K => r3_2) ?_
  refine Rch.call H (fun v5' N5' H => ?_)
  obtain ⟨cs6', hcs6', H⟩ := H
  refine Rch.bind hcs6' ?_
  obtain ⟨s7', hs7', H⟩ := H
  refine Rch.bind hs7' ?_
  obtain ⟨x8', hx8', H⟩ := H
  refine Rch.bind hx8' ?_
  refine Rch.leaf ?_
  refine Rn.seq k3_6 ?_
  refine Rn.region k3_7 (fun call K => r3_3) ?_
  refine Rch.call H (fun v9' N9' H => ?_)
  obtain ⟨cs10', hcs10', H⟩ := H
  refine Rch.bind hcs10' ?_
  obtain ⟨s11', hs11', H⟩ := H
  refine Rch.bind hs11' ?_
  obtain ⟨x12', hx12', H⟩ := H
  refine Rch.bind hx12' ?_
  refine Rch.leaf ?_
  refine Rn.seq k3_8 ?_
  refine Rn.seq k3_9 ?_
  refine Rn.region k3_10 (fun call K => r3_4) ?_
  refine Rch.cB (fun h => ?_) (fun h => ?_)
  · replace H := H.1 (ne_of_bneT h)
    refine Rch.leaf ?_
    exact H _ _ _ _ _ _ _ _ _ _ _ _ _ _ _ _ _ _ _ _ _ _ _ _ _ _ _ _ _ _ _ _ _ _ _ _ _ _ _ _ _ _ _ _ _ _ _ _ _ _ _ _ _ _ _ _ _ _ _ _ _ _ _ _ _ _ _ _ _ _ _ _ _ _ _ _ _ _ _ _ _ _ _ _ _ _
  · replace H := H.2 (eq_of_bneF h)
    refine Rch.call H (fun v13' N13' H => ?_)
    obtain ⟨b14', hb14', H⟩ := H
    refine Rch.bind hb14' ?_
    refine Rch.leaf ?_
    exact H _ _ _ _ _ _ _ _ _ _ _ _ _ _ _ _ _ _ _ _ _ _ _ _ _ _ _ _ _ _ _ _ _ _ _ _ _ _ _ _ _ _ _ _ _ _ _ _ _ _ _ _ _ _ _ _ _ _ _ _ _ _ _ _ _ _ _ _ _ _ _ _ _ _ _ _ _ _ _ _ _ _ _ _ _ _

theorem w3_1 {x1 : Int} {Ax5 : Option Addr} {lx5 : Nat} {cx5 : Nat} {Ax7 : Option Addr} {lx7 : Nat} {cx7 : Nat} {Ax9 : Option Addr} {lx9 : Nat} {cx9 : Nat} {x41 : Bool} {M : Mem} {Q : Value → Mem → Prop} (H :
    ((x41 = true →
     Q (.bool false) M) ∧
     (x41 = false →
     A3_2 x1 Ax5 lx5 cx5 Ax7 lx7 cx7 Ax9 lx9 cx9 0 M Q))) :
    A3_1 x1 Ax5 lx5 cx5 Ax7 lx7 cx7 Ax9 lx9 cx9 x41 M Q := by
  intro g0 g2 g3 g4 g6 g8 g10 g11 g12 g13 g14 g15 g16 g17 g18 g19 g20 g21 g22 g23 g24 g25 g26 g27 g28 g29 g30 g31 g32 g33 g34 g35 g36 g37 g38 g39 g40 g42 g43 g44 g45 g46 g47 g48 g49 g50 g51 g52 g53 g54 g55 g56 g57 g58 g59 g60 g61 g62 g63 g64 g65 g66 g67 g68 g69 g70 g71 g72 g73 g74 g75 g76 g77 g78 g79 g80 g81 g82 g83 g84 g85 g86 g87 g88 g89 g90
  refine Rn.cnd c3_11 (fun h => ?_) (fun h => ?_)
  · replace H := H.1 (h)
    refine Rn.seq k3_12 ?_
    refine Rn.region k3_13 (fun call K => r3_5) ?_
    refine Rch.leaf ?_
    exact Rn.ret k3_14 e3 H
  · replace H := H.2 (h)
    refine Rn.skip k3_16 ?_
    refine Rn.seq k3_17 ?_
    refine Rn.seq k3_18 ?_
    refine Rn.region k3_19 (fun call K => r3_6) ?_
    refine Rch.leaf ?_
    refine Rn.block k3_20 ?_
    refine Rn.loop k3_21 ?_
    exact H _ _ _ _ _ _ _ _ _ _ _ _ _ _ _ _ _ _ _ _ _ _ _ _ _ _ _ _ _ _ _ _ _ _ _ _ _ _ _ _ _ _ _ _ _ _ _ _ _ _ _ _ _ _ _ _ _ _ _ _ _ _ _ _ _ _ _ _ _ _ _ _ _ _ _ _ _ _ _ _ _ _ _ _ _ _

theorem w3_2 {x1 : Int} {Ax5 : Option Addr} {lx5 : Nat} {cx5 : Nat} {Ax7 : Option Addr} {lx7 : Nat} {cx7 : Nat} {Ax9 : Option Addr} {lx9 : Nat} {cx9 : Nat} {x11 : Int} {M : Mem} {Q : Value → Mem → Prop} (H :
    ((x11 < ((lx5 : Int)) →
     ∃ v15', indexAddrP Try.prog 22 (.slice Ax5 lx5 cx5) (.int .i64 x11) = some v15' ∧
     ∃ p16', asP v15' = some p16' ∧
     ∃ a17', p16' = some a17' ∧
     ∃ M18', M.put a17'.block a17'.off (.int .i64 (-1)) = some M18' ∧
     A3_2 x1 Ax5 lx5 cx5 Ax7 lx7 cx7 Ax9 lx9 cx9 (IntKind.i64.wrap (x11 + 1)) M18' Q) ∧
     (¬ (x11 < ((lx5 : Int))) →
     Cn Try.prog 12 #[.int .i64 x1] M fun v19' N19' =>
      ∃ cs20', asU 4 v19' = some cs20' ∧
      ∃ x21', asI .i64 (cs20'.getD 0 undef) = some x21' ∧
      ∃ x22', asI .i64 (cs20'.getD 1 undef) = some x22' ∧
      ∃ x23', asI .i64 (cs20'.getD 2 undef) = some x23' ∧
      ∃ x24', asI .i64 (cs20'.getD 3 undef) = some x24' ∧
      Cn Try.prog 13 #[.int .i64 x1] N19' fun v25' N25' =>
       ∃ cs26', asU 4 v25' = some cs26' ∧
       ∃ x27', asI .i64 (cs26'.getD 0 undef) = some x27' ∧
       ∃ x28', asI .i64 (cs26'.getD 1 undef) = some x28' ∧
       ∃ x29', asI .i64 (cs26'.getD 2 undef) = some x29' ∧
       ∃ x30', asI .i64 (cs26'.getD 3 undef) = some x30' ∧
       Cn Try.prog 11 #[.slice Ax7 lx7 cx7, .slice Ax9 lx9 cx9] N25' fun v31' N31' =>
        ∃ b32', asB v31' = some b32' ∧
        ((b32' = true →
         ((x21' = x27' →
          ((x22' = x28' →
           ((x23' = x29' →
            ((x24' = x30' →
             Cn Try.prog 14 #[] N31' fun v33' N33' =>
              ∃ b34', asB v33' = some b34' ∧
              Q (.bool b34') N33') ∧
             (x24' ≠ x30' →
             Q (.bool false) N31'))) ∧
            (x23' ≠ x29' →
            Q (.bool false) N31'))) ∧
           (x22' ≠ x28' →
           Q (.bool false) N31'))) ∧
          (x21' ≠ x27' →
          Q (.bool false) N31'))) ∧
         (b32' = false →
         Q (.bool false) N31'))))) :
    A3_2 x1 Ax5 lx5 cx5 Ax7 lx7 cx7 Ax9 lx9 cx9 x11 M Q := by
  intro g0 g2 g3 g4 g6 g8 g10 g12 g13 g14 g15 g16 g17 g18 g19 g20 g21 g22 g23 g24 g25 g26 g27 g28 g29 g30 g31 g32 g33 g34 g35 g36 g37 g38 g39 g40 g41 g42 g43 g44 g45 g46 g47 g48 g49 g50 g51 g52 g53 g54 g55 g56 g57 g58 g59 g60 g61 g62 g63 g64 g65 g66 g67 g68 g69 g70 g71 g72 g73 g74 g75 g76 g77 g78 g79 g80 g81 g82 g83 g84 g85 g86 g87 g88 g89 g90
  refine Rn.seq k3_22 ?_
  refine Rn.seq k3_23 ?_
  refine Rn.region k3_24 (fun call K => r3_7) ?_
  refine Rch.leaf ?_
  refine Rn.cnd c3_25 (fun h => ?_) (fun h => ?_)
  · replace H := H.1 (of_decide_eq_true h)
    refine Rn.skip k3_26 ?_
    refine Rn.seq k3_27 ?_
    refine Rn.block k3_28 ?_
    refine Rn.region k3_29 (fun call K => r3_9) ?_
    obtain ⟨v15', hv15', H⟩ := H
    refine Rch.bind hv15' ?_
    obtain ⟨p16', hp16', H⟩ := H
    refine Rch.bind hp16' ?_
    obtain ⟨a17', ha17', H⟩ := H
    refine Rch.bind ha17' ?_
    obtain ⟨M18', hM18', H⟩ := H
    refine Rch.bind hM18' ?_
    refine Rch.leaf ?_
    refine Rn.blk ?_
    refine Rn.region k3_30 (fun call K => r3_8) ?_
    refine Rch.leaf ?_
    refine Rn.lp ?_
    exact H _ _ _ _ _ _ _ _ _ _ _ _ _ _ _ _ _ _ _ _ _ _ _ _ _ _ _ _ _ _ _ _ _ _ _ _ _ _ _ _ _ _ _ _ _ _ _ _ _ _ _ _ _ _ _ _ _ _ _ _ _ _ _ _ _ _ _ _ _ _ _ _ _ _ _ _ _ _ _ _ _ _ _ _ _ _
  · replace H := H.2 (of_decide_eq_false h)
    refine Rn.exit k3_31 rfl ?_
    refine Rn.seq k3_32 ?_
    refine Rn.region k3_33 (fun call K => r3_10) ?_
    refine Rch.call H (fun v19' N19' H => ?_)
    obtain ⟨cs20', hcs20', H⟩ := H
    refine Rch.bind hcs20' ?_
    obtain ⟨x21', hx21', H⟩ := H
    refine Rch.bind hx21' ?_
    obtain ⟨x22', hx22', H⟩ := H
    refine Rch.bind hx22' ?_
    obtain ⟨x23', hx23', H⟩ := H
    refine Rch.bind hx23' ?_
    obtain ⟨x24', hx24', H⟩ := H
    refine Rch.bind hx24' ?_
    refine Rch.leaf ?_
    refine Rn.seq k3_34 ?_
    refine Rn.region k3_35 (fun call K => r3_11) ?_
    refine Rch.call H (fun v25' N25' H => ?_)
    obtain ⟨cs26', hcs26', H⟩ := H
    refine Rch.bind hcs26' ?_
    obtain ⟨x27', hx27', H⟩ := H
    refine Rch.bind hx27' ?_
    obtain ⟨x28', hx28', H⟩ := H
    refine Rch.bind hx28' ?_
    obtain ⟨x29', hx29', H⟩ := H
    refine Rch.bind hx29' ?_
    obtain ⟨x30', hx30', H⟩ := H
    refine Rch.bind hx30' ?_
    refine Rch.leaf ?_
    refine Rn.seq k3_36 ?_
    refine Rn.region k3_37 (fun call K => r3_12) ?_
    refine Rch.call H (fun v31' N31' H => ?_)
    obtain ⟨b32', hb32', H⟩ := H
    refine Rch.bind hb32' ?_
    refine Rch.cB (fun h => ?_) (fun h => ?_)
    · replace H := H.1 (h)
      refine Rch.cB (fun h => ?_) (fun h => ?_)
      · replace H := H.1 (eq_of_beq h)
        refine Rch.cB (fun h => ?_) (fun h => ?_)
        · replace H := H.1 (eq_of_beq h)
          refine Rch.cB (fun h => ?_) (fun h => ?_)
          · replace H := H.1 (eq_of_beq h)
            refine Rch.cB (fun h => ?_) (fun h => ?_)
            · replace H := H.1 (eq_of_beq h)
              refine Rch.call H (fun v33' N33' H => ?_)
              obtain ⟨b34', hb34', H⟩ := H
              refine Rch.bind hb34' ?_
              refine Rch.leaf ?_
              exact Rn.ret k3_38 e3 H
            · replace H := H.2 (ne_of_beq_false h)
              refine Rch.leaf ?_
              exact Rn.ret k3_38 e3 H
          · replace H := H.2 (ne_of_beq_false h)
            refine Rch.leaf ?_
            exact Rn.ret k3_38 e3 H
        · replace H := H.2 (ne_of_beq_false h)
          refine Rch.leaf ?_
          exact Rn.ret k3_38 e3 H
      · replace H := H.2 (ne_of_beq_false h)
        refine Rch.leaf ?_
        exact Rn.ret k3_38 e3 H
    · replace H := H.2 (h)
      refine Rch.leaf ?_
      exact Rn.ret k3_38 e3 H


end Go.Zt
