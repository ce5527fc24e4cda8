/- The functions' walks: for each function and each loop a rule of what it comes to. Printed by zw.py. -/
import Derived.Test.YtpfhalehdgcbeaaProg
import Derived.Test.YtpfhalehdgcbeaaZgA
set_option linter.unusedVariables false
set_option maxRecDepth 100000
namespace Go.Zt
open Go Go.Sim Go.Proofs

variable {g0 g1 g2 g3 g4 g5 g6 g7 g8 g9 gA gB gC gD gE gF gG gH gI gJ gK gL gM gN gO gP gQ gR gS gT gU gV gW gX gY gZ hA hB hC hD hE hF hG hH hI hJ hK hL hM hN hO hP hQ hR hS hT hU hV hW hX hY hZ h0 h1 h2 h3 h4 h5 h6 h7 h8 h9 jA jB jC jD jE jF jG jH jI jJ jK jL jM jN jO jP jQ jR jS jT jU jV jW jX jY jZ j0 j1 j2 j3 j4 j5 j6 j7 j8 j9 kA : Value}
/-! ### zoetrope/zoetroperef07.Back: function 41 -/
noncomputable abbrev P41 (p : List Nat) : Code := subC (codeOf Try.f41) p
noncomputable abbrev O41 (p : List Nat) : Array Oper := opsOf (subC (codeOf Try.f41) p)
theorem b41 : Try.prog.funcs[41]? = some Try.f41 ∧ (Orc.tab Try.prog).lookup 41 = none := ⟨by kernel_rfl, by kernel_rfl⟩
theorem d41 : Try.f41.body = some (P41 []) := by kernel_rfl
theorem t41 {Ax0 : Option Addr} {lx0 cx0 : Nat} {Ax1 : Option Addr} {lx1 cx1 : Nat} : #[.slice Ax0 lx0 cx0,.slice Ax1 lx1 cx1] ++ Array.replicate (Try.f41.ntmps - (#[.slice Ax0 lx0 cx0,.slice Ax1 lx1 cx1] : Array Value).size) undef = #[.slice Ax0 lx0 cx0,.slice Ax1 lx1 cx1,undef,undef,undef,undef,undef,undef,undef,undef,undef,undef,undef,undef,undef,undef,undef,undef,undef,undef,undef,undef,undef,undef,undef,undef,undef,undef,undef,undef,undef,undef,undef,undef,undef,undef,undef,undef,undef,undef,undef,undef,undef,undef,undef,undef,undef,undef,undef,undef,undef,undef,undef,undef,undef,undef,undef,undef,undef,undef,undef,undef,undef,undef,undef,undef,undef,undef,undef,undef,undef,undef,undef,undef,undef,undef,undef,undef,undef,undef,undef,undef,undef,undef,undef,undef,undef,undef,undef,undef,undef,undef,undef,undef,undef,undef,undef,undef,undef,undef,undef,undef,undef,undef,undef,undef,undef,undef,undef] := by kernel_rfl
theorem k41_0 : P41 [] = .seq (P41 [0]) (P41 [1]) := by kernel_rfl
theorem k41_1 : P41 [0] = .region 0 (O41 [0]) false := by kernel_rfl
theorem r41_0 {M : Mem} {call : CallM} {K : Array Value → Mem → R} :
    opsK Try.prog (fun _ => call) (O41 [0]) (O41 [0]).toList 0 #[g0,g1,g2,g3,g4,g5,g6,g7,g8,g9,gA,gB,gC,gD,gE,gF,gG,gH,gI,gJ,gK,gL,gM,gN,gO,gP,gQ,gR,gS,gT,gU,gV,gW,gX,gY,gZ,hA,hB,hC,hD,hE,hF,hG,hH,hI,hJ,hK,hL,hM,hN,hO,hP,hQ,hR,hS,hT,hU,hV,hW,hX,hY,hZ,h0,h1,h2,h3,h4,h5,h6,h7,h8,h9,jA,jB,jC,jD,jE,jF,jG,jH,jI,jJ,jK,jL,jM,jN,jO,jP,jQ,jR,jS,jT,jU,jV,jW,jX,jY,jZ,j0,j1,j2,j3,j4,j5,j6,j7,j8,j9,kA] M K = K #[g0,g1,g2,g3,.slice none 0 0,g5,g6,g7,g8,g9,gA,gB,gC,gD,gE,gF,gG,gH,gI,gJ,gK,gL,gM,gN,gO,gP,gQ,gR,gS,gT,gU,gV,gW,gX,gY,gZ,hA,hB,hC,hD,hE,hF,hG,hH,hI,hJ,hK,hL,hM,hN,hO,hP,hQ,hR,hS,hT,hU,hV,hW,hX,hY,hZ,h0,h1,h2,h3,h4,h5,h6,h7,h8,h9,jA,jB,jC,jD,jE,jF,jG,jH,jI,jJ,jK,jL,jM,jN,jO,jP,jQ,jR,jS,jT,jU,jV,jW,jX,jY,jZ,j0,j1,j2,j3,j4,j5,j6,j7,j8,j9,kA] M := by kernel_rfl
theorem k41_2 : P41 [1] = .seq (P41 [1,0]) (P41 [1,1]) := by kernel_rfl
theorem k41_3 : P41 [1,0] = .seq (P41 [1,0,0]) (P41 [1,0,1]) := by kernel_rfl
theorem k41_4 : P41 [1,0,0] = .region 1 (O41 [1,0,0]) false := by kernel_rfl
theorem r41_1 {Ax0 : Option Addr} {lx0 cx0 : Nat} {M : Mem} {call : CallM} {K : Array Value → Mem → R} :
    opsK Try.prog (fun _ => call) (O41 [1,0,0]) (O41 [1,0,0]).toList 0 #[.slice Ax0 lx0 cx0,g1,g2,g3,g4,g5,g6,g7,g8,g9,gA,gB,gC,gD,gE,gF,gG,gH,gI,gJ,gK,gL,gM,gN,gO,gP,gQ,gR,gS,gT,gU,gV,gW,gX,gY,gZ,hA,hB,hC,hD,hE,hF,hG,hH,hI,hJ,hK,hL,hM,hN,hO,hP,hQ,hR,hS,hT,hU,hV,hW,hX,hY,hZ,h0,h1,h2,h3,h4,h5,h6,h7,h8,h9,jA,jB,jC,jD,jE,jF,jG,jH,jI,jJ,jK,jL,jM,jN,jO,jP,jQ,jR,jS,jT,jU,jV,jW,jX,jY,jZ,j0,j1,j2,j3,j4,j5,j6,j7,j8,j9,kA] M K = K #[.slice Ax0 lx0 cx0,g1,g2,g3,g4,g5,g6,g7,g8,g9,gA,gB,gC,gD,gE,.slice Ax0 lx0 cx0,.int .i64 ((lx0 : Int)),.bool (((lx0 : Int)) == 0),gI,gJ,gK,gL,gM,gN,gO,gP,gQ,gR,gS,gT,gU,gV,gW,gX,gY,gZ,hA,hB,hC,hD,hE,hF,hG,hH,hI,hJ,hK,hL,hM,hN,hO,hP,hQ,hR,hS,hT,hU,hV,hW,hX,hY,hZ,h0,h1,h2,h3,h4,h5,h6,h7,h8,h9,jA,jB,jC,jD,jE,jF,jG,jH,jI,jJ,jK,jL,jM,jN,jO,jP,jQ,jR,jS,jT,jU,jV,jW,jX,jY,jZ,j0,j1,j2,j3,j4,j5,j6,j7,j8,j9,kA] M := by kernel_rfl
theorem c41_5 : P41 [1,0,1] = .cond (.tmp 17) (P41 [1,0,1,0]) (P41 [1,0,1,1]) := by kernel_rfl
theorem k41_6 : P41 [1,0,1,0] = .seq (P41 [1,0,1,0,0]) (P41 [1,0,1,0,1]) := by kernel_rfl
theorem k41_7 : P41 [1,0,1,0,0] = .region 2 (O41 [1,0,1,0,0]) true ∧ drawOk (O41 [1,0,1,0,0]) = true := ⟨by kernel_rfl, by kernel_rfl⟩
theorem r41_2 {Ax1 : Option Addr} {lx1 cx1 : Nat} {M : Mem} {call : CallM} {K : Array Value → Mem → R} :
    opsI Try.prog (callAt call (O41 [1,0,1,0,0])) (O41 [1,0,1,0,0]) (ordOf (O41 [1,0,1,0,0])) [] #[g0,.slice Ax1 lx1 cx1,g2,g3,g4,g5,g6,g7,g8,g9,gA,gB,gC,gD,gE,gF,gG,gH,gI,gJ,gK,gL,gM,gN,gO,gP,gQ,gR,gS,gT,gU,gV,gW,gX,gY,gZ,hA,hB,hC,hD,hE,hF,hG,hH,hI,hJ,hK,hL,hM,hN,hO,hP,hQ,hR,hS,hT,hU,hV,hW,hX,hY,hZ,h0,h1,h2,h3,h4,h5,h6,h7,h8,h9,jA,jB,jC,jD,jE,jF,jG,jH,jI,jJ,jK,jL,jM,jN,jO,jP,jQ,jR,jS,jT,jU,jV,jW,jX,jY,jZ,j0,j1,j2,j3,j4,j5,j6,j7,j8,j9,kA] M K = (idxA Ax1 lx1 1 0).bind fun a_1 => (M.intAt .i64 a_1.block a_1.off).bind fun x_2 => (idxA Ax1 lx1 1 1).bind fun a_3 => (M.intAt .i64 a_3.block a_3.off).bind fun x_4 => (idxA Ax1 lx1 1 2).bind fun a_5 => (M.intAt .i64 a_5.block a_5.off).bind fun x_6 => (idxA Ax1 lx1 1 3).bind fun a_7 => (M.intAt .i64 a_7.block a_7.off).bind fun x_8 => K #[g0,.slice Ax1 lx1 cx1,g2,g3,g4,.int .i64 x_2,.int .i64 x_4,.int .i64 x_6,.int .i64 x_8,g9,gA,gB,gC,gD,gE,gF,gG,gH,.slice Ax1 lx1 cx1,.pointer (some a_1),.int .i64 x_2,.slice Ax1 lx1 cx1,.pointer (some a_3),.int .i64 x_4,.slice Ax1 lx1 cx1,.pointer (some a_5),.int .i64 x_6,.slice Ax1 lx1 cx1,.pointer (some a_7),.int .i64 x_8,gU,gV,gW,gX,gY,gZ,hA,hB,hC,hD,hE,hF,hG,hH,hI,hJ,hK,hL,hM,hN,hO,hP,hQ,hR,hS,hT,hU,hV,hW,hX,hY,hZ,h0,h1,h2,h3,h4,h5,h6,h7,h8,h9,jA,jB,jC,jD,jE,jF,jG,jH,jI,jJ,jK,jL,jM,jN,jO,jP,jQ,jR,jS,jT,jU,jV,jW,jX,jY,jZ,j0,j1,j2,j3,j4,j5,j6,j7,j8,j9,kA] M := by kernel_rfl
theorem k41_8 : P41 [1,0,1,0,1] = .seq (P41 [1,0,1,0,1,0]) (P41 [1,0,1,0,1,1]) := by kernel_rfl
theorem k41_9 : P41 [1,0,1,0,1,0] = .region 3 (O41 [1,0,1,0,1,0]) false := by kernel_rfl
theorem r41_3 {x5 x6 : Int} {M : Mem} {call : CallM} {K : Array Value → Mem → R} :
    opsK Try.prog (fun _ => call) (O41 [1,0,1,0,1,0]) (O41 [1,0,1,0,1,0]).toList 0 #[g0,g1,g2,g3,g4,.int .i64 x5,.int .i64 x6,g7,g8,g9,gA,gB,gC,gD,gE,gF,gG,gH,gI,gJ,gK,gL,gM,gN,gO,gP,gQ,gR,gS,gT,gU,gV,gW,gX,gY,gZ,hA,hB,hC,hD,hE,hF,hG,hH,hI,hJ,hK,hL,hM,hN,hO,hP,hQ,hR,hS,hT,hU,hV,hW,hX,hY,hZ,h0,h1,h2,h3,h4,h5,h6,h7,h8,h9,jA,jB,jC,jD,jE,jF,jG,jH,jI,jJ,jK,jL,jM,jN,jO,jP,jQ,jR,jS,jT,jU,jV,jW,jX,jY,jZ,j0,j1,j2,j3,j4,j5,j6,j7,j8,j9,kA] M K = K #[g0,g1,g2,g3,g4,.int .i64 (IntKind.i64.wrap (x5 + x6)),.int .i64 x6,g7,g8,g9,gA,gB,gC,gD,gE,gF,gG,gH,gI,gJ,gK,gL,gM,gN,gO,gP,gQ,gR,gS,gT,.int .i64 x5,.int .i64 x6,.int .i64 (IntKind.i64.wrap (x5 + x6)),gX,gY,gZ,hA,hB,hC,hD,hE,hF,hG,hH,hI,hJ,hK,hL,hM,hN,hO,hP,hQ,hR,hS,hT,hU,hV,hW,hX,hY,hZ,h0,h1,h2,h3,h4,h5,h6,h7,h8,h9,jA,jB,jC,jD,jE,jF,jG,jH,jI,jJ,jK,jL,jM,jN,jO,jP,jQ,jR,jS,jT,jU,jV,jW,jX,jY,jZ,j0,j1,j2,j3,j4,j5,j6,j7,j8,j9,kA] M := by kernel_rfl
theorem k41_10 : P41 [1,0,1,0,1,1] = .seq (P41 [1,0,1,0,1,1,0]) (P41 [1,0,1,0,1,1,1]) := by kernel_rfl
theorem k41_11 : P41 [1,0,1,0,1,1,0] = .region 4 (O41 [1,0,1,0,1,1,0]) false := by kernel_rfl
theorem r41_4 {x7 x8 : Int} {M : Mem} {call : CallM} {K : Array Value → Mem → R} :
    opsK Try.prog (fun _ => call) (O41 [1,0,1,0,1,1,0]) (O41 [1,0,1,0,1,1,0]).toList 0 #[g0,g1,g2,g3,g4,g5,g6,.int .i64 x7,.int .i64 x8,g9,gA,gB,gC,gD,gE,gF,gG,gH,gI,gJ,gK,gL,gM,gN,gO,gP,gQ,gR,gS,gT,gU,gV,gW,gX,gY,gZ,hA,hB,hC,hD,hE,hF,hG,hH,hI,hJ,hK,hL,hM,hN,hO,hP,hQ,hR,hS,hT,hU,hV,hW,hX,hY,hZ,h0,h1,h2,h3,h4,h5,h6,h7,h8,h9,jA,jB,jC,jD,jE,jF,jG,jH,jI,jJ,jK,jL,jM,jN,jO,jP,jQ,jR,jS,jT,jU,jV,jW,jX,jY,jZ,j0,j1,j2,j3,j4,j5,j6,j7,j8,j9,kA] M K = K #[g0,g1,g2,g3,g4,g5,g6,.int .i64 (IntKind.i64.wrap (x7 - x8)),.int .i64 x8,g9,gA,gB,gC,gD,gE,gF,gG,gH,gI,gJ,gK,gL,gM,gN,gO,gP,gQ,gR,gS,gT,gU,gV,gW,.int .i64 x7,.int .i64 x8,.int .i64 (IntKind.i64.wrap (x7 - x8)),hA,hB,hC,hD,hE,hF,hG,hH,hI,hJ,hK,hL,hM,hN,hO,hP,hQ,hR,hS,hT,hU,hV,hW,hX,hY,hZ,h0,h1,h2,h3,h4,h5,h6,h7,h8,h9,jA,jB,jC,jD,jE,jF,jG,jH,jI,jJ,jK,jL,jM,jN,jO,jP,jQ,jR,jS,jT,jU,jV,jW,jX,jY,jZ,j0,j1,j2,j3,j4,j5,j6,j7,j8,j9,kA] M := by kernel_rfl
theorem k41_12 : P41 [1,0,1,0,1,1,1] = .seq (P41 [1,0,1,0,1,1,1,0]) (P41 [1,0,1,0,1,1,1,1]) := by kernel_rfl
theorem k41_13 : P41 [1,0,1,0,1,1,1,0] = .region 5 (O41 [1,0,1,0,1,1,1,0]) false := by kernel_rfl
theorem r41_5 {x5 x7 : Int} {M : Mem} {call : CallM} {K : Array Value → Mem → R} :
    opsK Try.prog (fun _ => call) (O41 [1,0,1,0,1,1,1,0]) (O41 [1,0,1,0,1,1,1,0]).toList 0 #[g0,g1,g2,g3,g4,.int .i64 x5,g6,.int .i64 x7,g8,g9,gA,gB,gC,gD,gE,gF,gG,gH,gI,gJ,gK,gL,gM,gN,gO,gP,gQ,gR,gS,gT,gU,gV,gW,gX,gY,gZ,hA,hB,hC,hD,hE,hF,hG,hH,hI,hJ,hK,hL,hM,hN,hO,hP,hQ,hR,hS,hT,hU,hV,hW,hX,hY,hZ,h0,h1,h2,h3,h4,h5,h6,h7,h8,h9,jA,jB,jC,jD,jE,jF,jG,jH,jI,jJ,jK,jL,jM,jN,jO,jP,jQ,jR,jS,jT,jU,jV,jW,jX,jY,jZ,j0,j1,j2,j3,j4,j5,j6,j7,j8,j9,kA] M K = K #[g0,g1,g2,g3,g4,.int .i64 x5,g6,.int .i64 x7,g8,.int .i64 ((IntKind.i64.wrap (x5 - x7)).fdiv (2 ^ 1)),gA,gB,gC,gD,gE,gF,gG,gH,gI,gJ,gK,gL,gM,gN,gO,gP,gQ,gR,gS,gT,gU,gV,gW,gX,gY,gZ,.int .i64 x5,.int .i64 x7,.int .i64 (IntKind.i64.wrap (x5 - x7)),.int .i64 ((IntKind.i64.wrap (x5 - x7)).fdiv (2 ^ 1)),hE,hF,hG,hH,hI,hJ,hK,hL,hM,hN,hO,hP,hQ,hR,hS,hT,hU,hV,hW,hX,hY,hZ,h0,h1,h2,h3,h4,h5,h6,h7,h8,h9,jA,jB,jC,jD,jE,jF,jG,jH,jI,jJ,jK,jL,jM,jN,jO,jP,jQ,jR,jS,jT,jU,jV,jW,jX,jY,jZ,j0,j1,j2,j3,j4,j5,j6,j7,j8,j9,kA] M := by kernel_rfl
theorem k41_14 : P41 [1,0,1,0,1,1,1,1] = .seq (P41 [1,0,1,0,1,1,1,1,0]) (P41 [1,0,1,0,1,1,1,1,1]) := by kernel_rfl
theorem k41_15 : P41 [1,0,1,0,1,1,1,1,0] = .region 6 (O41 [1,0,1,0,1,1,1,1,0]) false := by kernel_rfl
theorem r41_6 {x8 x9 : Int} {M : Mem} {call : CallM} {K : Array Value → Mem → R} :
    opsK Try.prog (fun _ => call) (O41 [1,0,1,0,1,1,1,1,0]) (O41 [1,0,1,0,1,1,1,1,0]).toList 0 #[g0,g1,g2,g3,g4,g5,g6,g7,.int .i64 x8,.int .i64 x9,gA,gB,gC,gD,gE,gF,gG,gH,gI,gJ,gK,gL,gM,gN,gO,gP,gQ,gR,gS,gT,gU,gV,gW,gX,gY,gZ,hA,hB,hC,hD,hE,hF,hG,hH,hI,hJ,hK,hL,hM,hN,hO,hP,hQ,hR,hS,hT,hU,hV,hW,hX,hY,hZ,h0,h1,h2,h3,h4,h5,h6,h7,h8,h9,jA,jB,jC,jD,jE,jF,jG,jH,jI,jJ,jK,jL,jM,jN,jO,jP,jQ,jR,jS,jT,jU,jV,jW,jX,jY,jZ,j0,j1,j2,j3,j4,j5,j6,j7,j8,j9,kA] M K = K #[g0,g1,g2,g3,g4,g5,g6,g7,.int .i64 (IntKind.i64.wrap (x9 - x8)),.int .i64 x9,gA,gB,gC,gD,gE,gF,gG,gH,gI,gJ,gK,gL,gM,gN,gO,gP,gQ,gR,gS,gT,gU,gV,gW,gX,gY,gZ,hA,hB,hC,hD,.int .i64 x9,.int .i64 x8,.int .i64 (IntKind.i64.wrap (x9 - x8)),hH,hI,hJ,hK,hL,hM,hN,hO,hP,hQ,hR,hS,hT,hU,hV,hW,hX,hY,hZ,h0,h1,h2,h3,h4,h5,h6,h7,h8,h9,jA,jB,jC,jD,jE,jF,jG,jH,jI,jJ,jK,jL,jM,jN,jO,jP,jQ,jR,jS,jT,jU,jV,jW,jX,jY,jZ,j0,j1,j2,j3,j4,j5,j6,j7,j8,j9,kA] M := by kernel_rfl
theorem k41_16 : P41 [1,0,1,0,1,1,1,1,1] = .seq (P41 [1,0,1,0,1,1,1,1,1,0]) (P41 [1,0,1,0,1,1,1,1,1,1]) := by kernel_rfl
theorem k41_17 : P41 [1,0,1,0,1,1,1,1,1,0] = .region 7 (O41 [1,0,1,0,1,1,1,1,1,0]) false := by kernel_rfl
theorem r41_7 {x6 x9 : Int} {M : Mem} {call : CallM} {K : Array Value → Mem → R} :
    opsK Try.prog (fun _ => call) (O41 [1,0,1,0,1,1,1,1,1,0]) (O41 [1,0,1,0,1,1,1,1,1,0]).toList 0 #[g0,g1,g2,g3,g4,g5,.int .i64 x6,g7,g8,.int .i64 x9,gA,gB,gC,gD,gE,gF,gG,gH,gI,gJ,gK,gL,gM,gN,gO,gP,gQ,gR,gS,gT,gU,gV,gW,gX,gY,gZ,hA,hB,hC,hD,hE,hF,hG,hH,hI,hJ,hK,hL,hM,hN,hO,hP,hQ,hR,hS,hT,hU,hV,hW,hX,hY,hZ,h0,h1,h2,h3,h4,h5,h6,h7,h8,h9,jA,jB,jC,jD,jE,jF,jG,jH,jI,jJ,jK,jL,jM,jN,jO,jP,jQ,jR,jS,jT,jU,jV,jW,jX,jY,jZ,j0,j1,j2,j3,j4,j5,j6,j7,j8,j9,kA] M K = K #[g0,g1,g2,g3,g4,g5,.int .i64 (IntKind.i64.wrap (x9 - x6)),g7,g8,.int .i64 x9,gA,gB,gC,gD,gE,gF,gG,gH,gI,gJ,gK,gL,gM,gN,gO,gP,gQ,gR,gS,gT,gU,gV,gW,gX,gY,gZ,hA,hB,hC,hD,hE,hF,hG,.int .i64 x9,.int .i64 x6,.int .i64 (IntKind.i64.wrap (x9 - x6)),hK,hL,hM,hN,hO,hP,hQ,hR,hS,hT,hU,hV,hW,hX,hY,hZ,h0,h1,h2,h3,h4,h5,h6,h7,h8,h9,jA,jB,jC,jD,jE,jF,jG,jH,jI,jJ,jK,jL,jM,jN,jO,jP,jQ,jR,jS,jT,jU,jV,jW,jX,jY,jZ,j0,j1,j2,j3,j4,j5,j6,j7,j8,j9,kA] M := by kernel_rfl
theorem k41_18 : P41 [1,0,1,0,1,1,1,1,1,1] = .seq (P41 [1,0,1,0,1,1,1,1,1,1,0]) (P41 [1,0,1,0,1,1,1,1,1,1,1]) := by kernel_rfl
theorem k41_19 : P41 [1,0,1,0,1,1,1,1,1,1,0] = .region 8 (O41 [1,0,1,0,1,1,1,1,1,1,0]) false := by kernel_rfl
theorem r41_8 {x5 x6 x7 x8 : Int} {M : Mem} {call : CallM} {K : Array Value → Mem → R} :
    opsK Try.prog (fun _ => call) (O41 [1,0,1,0,1,1,1,1,1,1,0]) (O41 [1,0,1,0,1,1,1,1,1,1,0]).toList 0 #[g0,g1,g2,g3,g4,.int .i64 x5,.int .i64 x6,.int .i64 x7,.int .i64 x8,g9,gA,gB,gC,gD,gE,gF,gG,gH,gI,gJ,gK,gL,gM,gN,gO,gP,gQ,gR,gS,gT,gU,gV,gW,gX,gY,gZ,hA,hB,hC,hD,hE,hF,hG,hH,hI,hJ,hK,hL,hM,hN,hO,hP,hQ,hR,hS,hT,hU,hV,hW,hX,hY,hZ,h0,h1,h2,h3,h4,h5,h6,h7,h8,h9,jA,jB,jC,jD,jE,jF,jG,jH,jI,jJ,jK,jL,jM,jN,jO,jP,jQ,jR,jS,jT,jU,jV,jW,jX,jY,jZ,j0,j1,j2,j3,j4,j5,j6,j7,j8,j9,kA] M K = K #[g0,g1,g2,g3,.slice (some ⟨2 * M.nb.size, 0, none⟩) 4 4,.int .i64 x5,.int .i64 x6,.int .i64 x7,.int .i64 x8,g9,gA,gB,gC,gD,gE,gF,gG,gH,gI,gJ,gK,gL,gM,gN,gO,gP,gQ,gR,gS,gT,gU,gV,gW,gX,gY,gZ,hA,hB,hC,hD,hE,hF,hG,hH,hI,hJ,.int .i64 x5,.int .i64 x8,.int .i64 (IntKind.i64.wrap (x5 - x8)),.int .i64 x8,.int .i64 x6,.int .i64 x7,.int .i64 x6,.int .i64 (IntKind.i64.wrap (x7 + x6)),.slice (some ⟨2 * M.nb.size, 0, none⟩) 4 4,hT,hU,hV,hW,hX,hY,hZ,h0,h1,h2,h3,h4,h5,h6,h7,h8,h9,jA,jB,jC,jD,jE,jF,jG,jH,jI,jJ,jK,jL,jM,jN,jO,jP,jQ,jR,jS,jT,jU,jV,jW,jX,jY,jZ,j0,j1,j2,j3,j4,j5,j6,j7,j8,j9,kA] (M.new (.cells #[.int .i64 (IntKind.i64.wrap (x5 - x8)), .int .i64 x8, .int .i64 x6, .int .i64 (IntKind.i64.wrap (x7 + x6))] 3)) := by kernel_rfl
theorem k41_20 : P41 [1,0,1,0,1,1,1,1,1,1,1] = .ret := by kernel_rfl
theorem e41 {M : Mem} : finish Try.prog Try.f41 #[g0,g1,g2,g3,g4,g5,g6,g7,g8,g9,gA,gB,gC,gD,gE,gF,gG,gH,gI,gJ,gK,gL,gM,gN,gO,gP,gQ,gR,gS,gT,gU,gV,gW,gX,gY,gZ,hA,hB,hC,hD,hE,hF,hG,hH,hI,hJ,hK,hL,hM,hN,hO,hP,hQ,hR,hS,hT,hU,hV,hW,hX,hY,hZ,h0,h1,h2,h3,h4,h5,h6,h7,h8,h9,jA,jB,jC,jD,jE,jF,jG,jH,jI,jJ,jK,jL,jM,jN,jO,jP,jQ,jR,jS,jT,jU,jV,jW,jX,jY,jZ,j0,j1,j2,j3,j4,j5,j6,j7,j8,j9,kA] M = some (g4, M) := by kernel_rfl
theorem k41_22 : P41 [1,0,1,1] = .skip := by kernel_rfl
theorem k41_23 : P41 [1,1] = .seq (P41 [1,1,0]) (P41 [1,1,1]) := by kernel_rfl
theorem k41_24 : P41 [1,1,0] = .region 9 (O41 [1,1,0]) false := by kernel_rfl
theorem r41_9 {Ax1 : Option Addr} {lx1 cx1 : Nat} {M : Mem} {call : CallM} {K : Array Value → Mem → R} :
    opsK Try.prog (fun _ => call) (O41 [1,1,0]) (O41 [1,1,0]).toList 0 #[g0,.slice Ax1 lx1 cx1,g2,g3,g4,g5,g6,g7,g8,g9,gA,gB,gC,gD,gE,gF,gG,gH,gI,gJ,gK,gL,gM,gN,gO,gP,gQ,gR,gS,gT,gU,gV,gW,gX,gY,gZ,hA,hB,hC,hD,hE,hF,hG,hH,hI,hJ,hK,hL,hM,hN,hO,hP,hQ,hR,hS,hT,hU,hV,hW,hX,hY,hZ,h0,h1,h2,h3,h4,h5,h6,h7,h8,h9,jA,jB,jC,jD,jE,jF,jG,jH,jI,jJ,jK,jL,jM,jN,jO,jP,jQ,jR,jS,jT,jU,jV,jW,jX,jY,jZ,j0,j1,j2,j3,j4,j5,j6,j7,j8,j9,kA] M K = K #[g0,.slice Ax1 lx1 cx1,g2,g3,g4,g5,g6,g7,g8,g9,.int .i64 ((lx1 : Int)),gB,gC,gD,gE,gF,gG,gH,gI,gJ,gK,gL,gM,gN,gO,gP,gQ,gR,gS,gT,gU,gV,gW,gX,gY,gZ,hA,hB,hC,hD,hE,hF,hG,hH,hI,hJ,hK,hL,hM,hN,hO,hP,hQ,hR,hS,.slice Ax1 lx1 cx1,.int .i64 ((lx1 : Int)),hV,hW,hX,hY,hZ,h0,h1,h2,h3,h4,h5,h6,h7,h8,h9,jA,jB,jC,jD,jE,jF,jG,jH,jI,jJ,jK,jL,jM,jN,jO,jP,jQ,jR,jS,jT,jU,jV,jW,jX,jY,jZ,j0,j1,j2,j3,j4,j5,j6,j7,j8,j9,kA] M := by kernel_rfl
theorem k41_25 : P41 [1,1,1] = .seq (P41 [1,1,1,0]) (P41 [1,1,1,1]) := by kernel_rfl
theorem k41_26 : P41 [1,1,1,0] = .region 10 (O41 [1,1,1,0]) false := by kernel_rfl
theorem r41_10 {x10 : Int} {M : Mem} {call : CallM} {K : Array Value → Mem → R} :
    opsK Try.prog (fun _ => call) (O41 [1,1,1,0]) (O41 [1,1,1,0]).toList 0 #[g0,g1,g2,g3,g4,g5,g6,g7,g8,g9,.int .i64 x10,gB,gC,gD,gE,gF,gG,gH,gI,gJ,gK,gL,gM,gN,gO,gP,gQ,gR,gS,gT,gU,gV,gW,gX,gY,gZ,hA,hB,hC,hD,hE,hF,hG,hH,hI,hJ,hK,hL,hM,hN,hO,hP,hQ,hR,hS,hT,hU,hV,hW,hX,hY,hZ,h0,h1,h2,h3,h4,h5,h6,h7,h8,h9,jA,jB,jC,jD,jE,jF,jG,jH,jI,jJ,jK,jL,jM,jN,jO,jP,jQ,jR,jS,jT,jU,jV,jW,jX,jY,jZ,j0,j1,j2,j3,j4,j5,j6,j7,j8,j9,kA] M K = (makeP Try.prog 22 (.int .i64 x10) (.int .i64 x10) M).bind fun r_1 => (asS r_1.1).bind fun s_2 => K #[g0,g1,g2,g3,g4,g5,g6,g7,g8,g9,.int .i64 x10,.slice s_2.1 (s_2.2.1) (s_2.2.2),gC,gD,gE,gF,gG,gH,gI,gJ,gK,gL,gM,gN,gO,gP,gQ,gR,gS,gT,gU,gV,gW,gX,gY,gZ,hA,hB,hC,hD,hE,hF,hG,hH,hI,hJ,hK,hL,hM,hN,hO,hP,hQ,hR,hS,hT,hU,.int .i64 x10,.slice s_2.1 (s_2.2.1) (s_2.2.2),hX,hY,hZ,h0,h1,h2,h3,h4,h5,h6,h7,h8,h9,jA,jB,jC,jD,jE,jF,jG,jH,jI,jJ,jK,jL,jM,jN,jO,jP,jQ,jR,jS,jT,jU,jV,jW,jX,jY,jZ,j0,j1,j2,j3,j4,j5,j6,j7,j8,j9,kA] r_1.2 := by kernel_rfl
theorem k41_27 : P41 [1,1,1,1] = .seq (P41 [1,1,1,1,0]) (P41 [1,1,1,1,1]) := by kernel_rfl
theorem k41_28 : P41 [1,1,1,1,0] = .seq (P41 [1,1,1,1,0,0]) (P41 [1,1,1,1,0,1]) := by kernel_rfl
theorem k41_29 : P41 [1,1,1,1,0,0] = .region 11 (O41 [1,1,1,1,0,0]) false := by kernel_rfl
theorem r41_11 {M : Mem} {call : CallM} {K : Array Value → Mem → R} :
    opsK Try.prog (fun _ => call) (O41 [1,1,1,1,0,0]) (O41 [1,1,1,1,0,0]).toList 0 #[g0,g1,g2,g3,g4,g5,g6,g7,g8,g9,gA,gB,gC,gD,gE,gF,gG,gH,gI,gJ,gK,gL,gM,gN,gO,gP,gQ,gR,gS,gT,gU,gV,gW,gX,gY,gZ,hA,hB,hC,hD,hE,hF,hG,hH,hI,hJ,hK,hL,hM,hN,hO,hP,hQ,hR,hS,hT,hU,hV,hW,hX,hY,hZ,h0,h1,h2,h3,h4,h5,h6,h7,h8,h9,jA,jB,jC,jD,jE,jF,jG,jH,jI,jJ,jK,jL,jM,jN,jO,jP,jQ,jR,jS,jT,jU,jV,jW,jX,jY,jZ,j0,j1,j2,j3,j4,j5,j6,j7,j8,j9,kA] M K = K #[g0,g1,g2,g3,g4,g5,g6,g7,g8,g9,gA,gB,.int .i64 0,gD,gE,gF,gG,gH,gI,gJ,gK,gL,gM,gN,gO,gP,gQ,gR,gS,gT,gU,gV,gW,gX,gY,gZ,hA,hB,hC,hD,hE,hF,hG,hH,hI,hJ,hK,hL,hM,hN,hO,hP,hQ,hR,hS,hT,hU,hV,hW,hX,hY,hZ,h0,h1,h2,h3,h4,h5,h6,h7,h8,h9,jA,jB,jC,jD,jE,jF,jG,jH,jI,jJ,jK,jL,jM,jN,jO,jP,jQ,jR,jS,jT,jU,jV,jW,jX,jY,jZ,j0,j1,j2,j3,j4,j5,j6,j7,j8,j9,kA] M := by kernel_rfl
theorem k41_30 : P41 [1,1,1,1,0,1] = .block 0 (P41 [1,1,1,1,0,1,0]) := by kernel_rfl
theorem k41_31 : P41 [1,1,1,1,0,1,0] = .loop (P41 [1,1,1,1,0,1,0,0]) := by kernel_rfl
theorem k41_32 : P41 [1,1,1,1,0,1,0,0] = .seq (P41 [1,1,1,1,0,1,0,0,0]) (P41 [1,1,1,1,0,1,0,0,1]) := by kernel_rfl
theorem k41_33 : P41 [1,1,1,1,0,1,0,0,0] = .seq (P41 [1,1,1,1,0,1,0,0,0,0]) (P41 [1,1,1,1,0,1,0,0,0,1]) := by kernel_rfl
theorem k41_34 : P41 [1,1,1,1,0,1,0,0,0,0] = .region 12 (O41 [1,1,1,1,0,1,0,0,0,0]) false := by kernel_rfl
theorem r41_12 {x10 x12 : Int} {M : Mem} {call : CallM} {K : Array Value → Mem → R} :
    opsK Try.prog (fun _ => call) (O41 [1,1,1,1,0,1,0,0,0,0]) (O41 [1,1,1,1,0,1,0,0,0,0]).toList 0 #[g0,g1,g2,g3,g4,g5,g6,g7,g8,g9,.int .i64 x10,gB,.int .i64 x12,gD,gE,gF,gG,gH,gI,gJ,gK,gL,gM,gN,gO,gP,gQ,gR,gS,gT,gU,gV,gW,gX,gY,gZ,hA,hB,hC,hD,hE,hF,hG,hH,hI,hJ,hK,hL,hM,hN,hO,hP,hQ,hR,hS,hT,hU,hV,hW,hX,hY,hZ,h0,h1,h2,h3,h4,h5,h6,h7,h8,h9,jA,jB,jC,jD,jE,jF,jG,jH,jI,jJ,jK,jL,jM,jN,jO,jP,jQ,jR,jS,jT,jU,jV,jW,jX,jY,jZ,j0,j1,j2,j3,j4,j5,j6,j7,j8,j9,kA] M K = K #[g0,g1,g2,g3,g4,g5,g6,g7,g8,g9,.int .i64 x10,gB,.int .i64 x12,gD,gE,gF,gG,gH,gI,gJ,gK,gL,gM,gN,gO,gP,gQ,gR,gS,gT,gU,gV,gW,gX,gY,gZ,hA,hB,hC,hD,hE,hF,hG,hH,hI,hJ,hK,hL,hM,hN,hO,hP,hQ,hR,hS,hT,hU,hV,hW,.int .i64 x12,.int .i64 x10,.bool (decide (x12 < x10)),h0,h1,h2,h3,h4,h5,h6,h7,h8,h9,jA,jB,jC,jD,jE,jF,jG,jH,jI,jJ,jK,jL,jM,jN,jO,jP,jQ,jR,jS,jT,jU,jV,jW,jX,jY,jZ,j0,j1,j2,j3,j4,j5,j6,j7,j8,j9,kA] M := by kernel_rfl
theorem c41_35 : P41 [1,1,1,1,0,1,0,0,0,1] = .cond (.tmp 61) (P41 [1,1,1,1,0,1,0,0,0,1,0]) (P41 [1,1,1,1,0,1,0,0,0,1,1]) := by kernel_rfl
theorem k41_36 : P41 [1,1,1,1,0,1,0,0,0,1,0] = .skip := by kernel_rfl
theorem k41_37 : P41 [1,1,1,1,0,1,0,0,1] = .seq (P41 [1,1,1,1,0,1,0,0,1,0]) (P41 [1,1,1,1,0,1,0,0,1,1]) := by kernel_rfl
theorem k41_38 : P41 [1,1,1,1,0,1,0,0,1,0] = .block 1 (P41 [1,1,1,1,0,1,0,0,1,0,0]) := by kernel_rfl
theorem k41_39 : P41 [1,1,1,1,0,1,0,0,1,0,0] = .seq (P41 [1,1,1,1,0,1,0,0,1,0,0,0]) (P41 [1,1,1,1,0,1,0,0,1,0,0,1]) := by kernel_rfl
theorem k41_40 : P41 [1,1,1,1,0,1,0,0,1,0,0,0] = .seq (P41 [1,1,1,1,0,1,0,0,1,0,0,0,0]) (P41 [1,1,1,1,0,1,0,0,1,0,0,0,1]) := by kernel_rfl
theorem k41_41 : P41 [1,1,1,1,0,1,0,0,1,0,0,0,0] = .region 14 (O41 [1,1,1,1,0,1,0,0,1,0,0,0,0]) false := by kernel_rfl
theorem r41_14 {Ax1 : Option Addr} {lx1 cx1 : Nat} {x12 : Int} {M : Mem} {call : CallM} {K : Array Value → Mem → R} :
    opsK Try.prog (fun _ => call) (O41 [1,1,1,1,0,1,0,0,1,0,0,0,0]) (O41 [1,1,1,1,0,1,0,0,1,0,0,0,0]).toList 0 #[g0,.slice Ax1 lx1 cx1,g2,g3,g4,g5,g6,g7,g8,g9,gA,gB,.int .i64 x12,gD,gE,gF,gG,gH,gI,gJ,gK,gL,gM,gN,gO,gP,gQ,gR,gS,gT,gU,gV,gW,gX,gY,gZ,hA,hB,hC,hD,hE,hF,hG,hH,hI,hJ,hK,hL,hM,hN,hO,hP,hQ,hR,hS,hT,hU,hV,hW,hX,hY,hZ,h0,h1,h2,h3,h4,h5,h6,h7,h8,h9,jA,jB,jC,jD,jE,jF,jG,jH,jI,jJ,jK,jL,jM,jN,jO,jP,jQ,jR,jS,jT,jU,jV,jW,jX,jY,jZ,j0,j1,j2,j3,j4,j5,j6,j7,j8,j9,kA] M K = (idxA Ax1 lx1 1 x12).bind fun a_1 => (M.intAt .i64 a_1.block a_1.off).bind fun x_2 => K #[g0,.slice Ax1 lx1 cx1,g2,g3,g4,g5,g6,g7,g8,g9,gA,gB,.int .i64 x12,gD,gE,gF,gG,gH,gI,gJ,gK,gL,gM,gN,gO,gP,gQ,gR,gS,gT,gU,gV,gW,gX,gY,gZ,hA,hB,hC,hD,hE,hF,hG,hH,hI,hJ,hK,hL,hM,hN,hO,hP,hQ,hR,hS,hT,hU,hV,hW,hX,hY,hZ,h0,h1,.slice Ax1 lx1 cx1,.int .i64 x12,.pointer (some a_1),.int .i64 x_2,.bool (x_2 == 0),h7,h8,h9,jA,jB,jC,jD,jE,jF,jG,jH,jI,jJ,jK,jL,jM,jN,jO,jP,jQ,jR,jS,jT,jU,jV,jW,jX,jY,jZ,j0,j1,j2,j3,j4,j5,j6,j7,j8,j9,kA] M := by kernel_rfl
theorem c41_42 : P41 [1,1,1,1,0,1,0,0,1,0,0,0,1] = .cond (.tmp 68) (P41 [1,1,1,1,0,1,0,0,1,0,0,0,1,0]) (P41 [1,1,1,1,0,1,0,0,1,0,0,0,1,1]) := by kernel_rfl
theorem k41_43 : P41 [1,1,1,1,0,1,0,0,1,0,0,0,1,0] = .exit 1 := by kernel_rfl
theorem k41_44 : P41 [1,1,1,1,0,1,0,0,1,0,0,0,1,1] = .skip := by kernel_rfl
theorem k41_45 : P41 [1,1,1,1,0,1,0,0,1,0,0,1] = .seq (P41 [1,1,1,1,0,1,0,0,1,0,0,1,0]) (P41 [1,1,1,1,0,1,0,0,1,0,0,1,1]) := by kernel_rfl
theorem k41_46 : P41 [1,1,1,1,0,1,0,0,1,0,0,1,0] = .region 15 (O41 [1,1,1,1,0,1,0,0,1,0,0,1,0]) false := by kernel_rfl
theorem r41_15 {M : Mem} {call : CallM} {K : Array Value → Mem → R} :
    opsK Try.prog (fun _ => call) (O41 [1,1,1,1,0,1,0,0,1,0,0,1,0]) (O41 [1,1,1,1,0,1,0,0,1,0,0,1,0]).toList 0 #[g0,g1,g2,g3,g4,g5,g6,g7,g8,g9,gA,gB,gC,gD,gE,gF,gG,gH,gI,gJ,gK,gL,gM,gN,gO,gP,gQ,gR,gS,gT,gU,gV,gW,gX,gY,gZ,hA,hB,hC,hD,hE,hF,hG,hH,hI,hJ,hK,hL,hM,hN,hO,hP,hQ,hR,hS,hT,hU,hV,hW,hX,hY,hZ,h0,h1,h2,h3,h4,h5,h6,h7,h8,h9,jA,jB,jC,jD,jE,jF,jG,jH,jI,jJ,jK,jL,jM,jN,jO,jP,jQ,jR,jS,jT,jU,jV,jW,jX,jY,jZ,j0,j1,j2,j3,j4,j5,j6,j7,j8,j9,kA] M K = K #[g0,g1,g2,g3,g4,g5,g6,g7,g8,g9,gA,gB,gC,.int .i64 0,gE,gF,gG,gH,gI,gJ,gK,gL,gM,gN,gO,gP,gQ,gR,gS,gT,gU,gV,gW,gX,gY,gZ,hA,hB,hC,hD,hE,hF,hG,hH,hI,hJ,hK,hL,hM,hN,hO,hP,hQ,hR,hS,hT,hU,hV,hW,hX,hY,hZ,h0,h1,h2,h3,h4,h5,h6,h7,h8,h9,jA,jB,jC,jD,jE,jF,jG,jH,jI,jJ,jK,jL,jM,jN,jO,jP,jQ,jR,jS,jT,jU,jV,jW,jX,jY,jZ,j0,j1,j2,j3,j4,j5,j6,j7,j8,j9,kA] M := by kernel_rfl
theorem k41_47 : P41 [1,1,1,1,0,1,0,0,1,0,0,1,1] = .block 2 (P41 [1,1,1,1,0,1,0,0,1,0,0,1,1,0]) := by kernel_rfl
theorem k41_48 : P41 [1,1,1,1,0,1,0,0,1,0,0,1,1,0] = .loop (P41 [1,1,1,1,0,1,0,0,1,0,0,1,1,0,0]) := by kernel_rfl
theorem k41_49 : P41 [1,1,1,1,0,1,0,0,0,1,1] = .exit 0 := by kernel_rfl
theorem k41_50 : P41 [1,1,1,1,1] = .seq (P41 [1,1,1,1,1,0]) (P41 [1,1,1,1,1,1]) := by kernel_rfl
theorem k41_51 : P41 [1,1,1,1,1,0] = .seq (P41 [1,1,1,1,1,0,0]) (P41 [1,1,1,1,1,0,1]) := by kernel_rfl
theorem k41_52 : P41 [1,1,1,1,1,0,0] = .region 19 (O41 [1,1,1,1,1,0,0]) false := by kernel_rfl
theorem r41_19 {M : Mem} {call : CallM} {K : Array Value → Mem → R} :
    opsK Try.prog (fun _ => call) (O41 [1,1,1,1,1,0,0]) (O41 [1,1,1,1,1,0,0]).toList 0 #[g0,g1,g2,g3,g4,g5,g6,g7,g8,g9,gA,gB,gC,gD,gE,gF,gG,gH,gI,gJ,gK,gL,gM,gN,gO,gP,gQ,gR,gS,gT,gU,gV,gW,gX,gY,gZ,hA,hB,hC,hD,hE,hF,hG,hH,hI,hJ,hK,hL,hM,hN,hO,hP,hQ,hR,hS,hT,hU,hV,hW,hX,hY,hZ,h0,h1,h2,h3,h4,h5,h6,h7,h8,h9,jA,jB,jC,jD,jE,jF,jG,jH,jI,jJ,jK,jL,jM,jN,jO,jP,jQ,jR,jS,jT,jU,jV,jW,jX,jY,jZ,j0,j1,j2,j3,j4,j5,j6,j7,j8,j9,kA] M K = K #[g0,g1,g2,g3,g4,g5,g6,g7,g8,g9,gA,gB,gC,gD,.int .i64 0,gF,gG,gH,gI,gJ,gK,gL,gM,gN,gO,gP,gQ,gR,gS,gT,gU,gV,gW,gX,gY,gZ,hA,hB,hC,hD,hE,hF,hG,hH,hI,hJ,hK,hL,hM,hN,hO,hP,hQ,hR,hS,hT,hU,hV,hW,hX,hY,hZ,h0,h1,h2,h3,h4,h5,h6,h7,h8,h9,jA,jB,jC,jD,jE,jF,jG,jH,jI,jJ,jK,jL,jM,jN,jO,jP,jQ,jR,jS,jT,jU,jV,jW,jX,jY,jZ,j0,j1,j2,j3,j4,j5,j6,j7,j8,j9,kA] M := by kernel_rfl
theorem k41_53 : P41 [1,1,1,1,1,0,1] = .block 4 (P41 [1,1,1,1,1,0,1,0]) := by kernel_rfl
theorem k41_54 : P41 [1,1,1,1,1,0,1,0] = .loop (P41 [1,1,1,1,1,0,1,0,0]) := by kernel_rfl
theorem k41_55 : P41 [1,1,1,1,0,1,0,0,1,1] = .region 13 (O41 [1,1,1,1,0,1,0,0,1,1]) false := by kernel_rfl
theorem r41_13 {x12 : Int} {M : Mem} {call : CallM} {K : Array Value → Mem → R} :
    opsK Try.prog (fun _ => call) (O41 [1,1,1,1,0,1,0,0,1,1]) (O41 [1,1,1,1,0,1,0,0,1,1]).toList 0 #[g0,g1,g2,g3,g4,g5,g6,g7,g8,g9,gA,gB,.int .i64 x12,gD,gE,gF,gG,gH,gI,gJ,gK,gL,gM,gN,gO,gP,gQ,gR,gS,gT,gU,gV,gW,gX,gY,gZ,hA,hB,hC,hD,hE,hF,hG,hH,hI,hJ,hK,hL,hM,hN,hO,hP,hQ,hR,hS,hT,hU,hV,hW,hX,hY,hZ,h0,h1,h2,h3,h4,h5,h6,h7,h8,h9,jA,jB,jC,jD,jE,jF,jG,jH,jI,jJ,jK,jL,jM,jN,jO,jP,jQ,jR,jS,jT,jU,jV,jW,jX,jY,jZ,j0,j1,j2,j3,j4,j5,j6,j7,j8,j9,kA] M K = K #[g0,g1,g2,g3,g4,g5,g6,g7,g8,g9,gA,gB,.int .i64 (IntKind.i64.wrap (x12 + 1)),gD,gE,gF,gG,gH,gI,gJ,gK,gL,gM,gN,gO,gP,gQ,gR,gS,gT,gU,gV,gW,gX,gY,gZ,hA,hB,hC,hD,hE,hF,hG,hH,hI,hJ,hK,hL,hM,hN,hO,hP,hQ,hR,hS,hT,hU,hV,hW,hX,hY,hZ,.int .i64 x12,.int .i64 (IntKind.i64.wrap (x12 + 1)),h2,h3,h4,h5,h6,h7,h8,h9,jA,jB,jC,jD,jE,jF,jG,jH,jI,jJ,jK,jL,jM,jN,jO,jP,jQ,jR,jS,jT,jU,jV,jW,jX,jY,jZ,j0,j1,j2,j3,j4,j5,j6,j7,j8,j9,kA] M := by kernel_rfl
theorem k41_56 : P41 [1,1,1,1,0,1,0,0,1,0,0,1,1,0,0] = .seq (P41 [1,1,1,1,0,1,0,0,1,0,0,1,1,0,0,0]) (P41 [1,1,1,1,0,1,0,0,1,0,0,1,1,0,0,1]) := by kernel_rfl
theorem k41_57 : P41 [1,1,1,1,0,1,0,0,1,0,0,1,1,0,0,0] = .seq (P41 [1,1,1,1,0,1,0,0,1,0,0,1,1,0,0,0,0]) (P41 [1,1,1,1,0,1,0,0,1,0,0,1,1,0,0,0,1]) := by kernel_rfl
theorem k41_58 : P41 [1,1,1,1,0,1,0,0,1,0,0,1,1,0,0,0,0] = .region 16 (O41 [1,1,1,1,0,1,0,0,1,0,0,1,1,0,0,0,0]) false := by kernel_rfl
theorem r41_16 {x10 x13 : Int} {M : Mem} {call : CallM} {K : Array Value → Mem → R} :
    opsK Try.prog (fun _ => call) (O41 [1,1,1,1,0,1,0,0,1,0,0,1,1,0,0,0,0]) (O41 [1,1,1,1,0,1,0,0,1,0,0,1,1,0,0,0,0]).toList 0 #[g0,g1,g2,g3,g4,g5,g6,g7,g8,g9,.int .i64 x10,gB,gC,.int .i64 x13,gE,gF,gG,gH,gI,gJ,gK,gL,gM,gN,gO,gP,gQ,gR,gS,gT,gU,gV,gW,gX,gY,gZ,hA,hB,hC,hD,hE,hF,hG,hH,hI,hJ,hK,hL,hM,hN,hO,hP,hQ,hR,hS,hT,hU,hV,hW,hX,hY,hZ,h0,h1,h2,h3,h4,h5,h6,h7,h8,h9,jA,jB,jC,jD,jE,jF,jG,jH,jI,jJ,jK,jL,jM,jN,jO,jP,jQ,jR,jS,jT,jU,jV,jW,jX,jY,jZ,j0,j1,j2,j3,j4,j5,j6,j7,j8,j9,kA] M K = K #[g0,g1,g2,g3,g4,g5,g6,g7,g8,g9,.int .i64 x10,gB,gC,.int .i64 x13,gE,gF,gG,gH,gI,gJ,gK,gL,gM,gN,gO,gP,gQ,gR,gS,gT,gU,gV,gW,gX,gY,gZ,hA,hB,hC,hD,hE,hF,hG,hH,hI,hJ,hK,hL,hM,hN,hO,hP,hQ,hR,hS,hT,hU,hV,hW,hX,hY,hZ,h0,h1,h2,h3,h4,h5,h6,.int .i64 x13,.int .i64 x10,.bool (decide (x13 < x10)),jA,jB,jC,jD,jE,jF,jG,jH,jI,jJ,jK,jL,jM,jN,jO,jP,jQ,jR,jS,jT,jU,jV,jW,jX,jY,jZ,j0,j1,j2,j3,j4,j5,j6,j7,j8,j9,kA] M := by kernel_rfl
theorem c41_59 : P41 [1,1,1,1,0,1,0,0,1,0,0,1,1,0,0,0,1] = .cond (.tmp 71) (P41 [1,1,1,1,0,1,0,0,1,0,0,1,1,0,0,0,1,0]) (P41 [1,1,1,1,0,1,0,0,1,0,0,1,1,0,0,0,1,1]) := by kernel_rfl
theorem k41_60 : P41 [1,1,1,1,0,1,0,0,1,0,0,1,1,0,0,0,1,0] = .skip := by kernel_rfl
theorem k41_61 : P41 [1,1,1,1,0,1,0,0,1,0,0,1,1,0,0,1] = .seq (P41 [1,1,1,1,0,1,0,0,1,0,0,1,1,0,0,1,0]) (P41 [1,1,1,1,0,1,0,0,1,0,0,1,1,0,0,1,1]) := by kernel_rfl
theorem k41_62 : P41 [1,1,1,1,0,1,0,0,1,0,0,1,1,0,0,1,0] = .block 3 (P41 [1,1,1,1,0,1,0,0,1,0,0,1,1,0,0,1,0,0]) := by kernel_rfl
theorem k41_63 : P41 [1,1,1,1,0,1,0,0,1,0,0,1,1,0,0,1,0,0] = .region 18 (O41 [1,1,1,1,0,1,0,0,1,0,0,1,1,0,0,1,0,0]) true ∧ drawOk (O41 [1,1,1,1,0,1,0,0,1,0,0,1,1,0,0,1,0,0]) = true := ⟨by kernel_rfl, by kernel_rfl⟩
theorem r41_18 {Ax0 : Option Addr} {lx0 cx0 : Nat} {Ax1 : Option Addr} {lx1 cx1 : Nat} {Ax11 : Option Addr} {lx11 cx11 : Nat} {x12 x13 : Int} {M : Mem} {call : CallM} {K : Array Value → Mem → R} :
    opsI Try.prog (callAt call (O41 [1,1,1,1,0,1,0,0,1,0,0,1,1,0,0,1,0,0])) (O41 [1,1,1,1,0,1,0,0,1,0,0,1,1,0,0,1,0,0]) (ordOf (O41 [1,1,1,1,0,1,0,0,1,0,0,1,1,0,0,1,0,0])) [] #[.slice Ax0 lx0 cx0,.slice Ax1 lx1 cx1,g2,g3,g4,g5,g6,g7,g8,g9,gA,.slice Ax11 lx11 cx11,.int .i64 x12,.int .i64 x13,gE,gF,gG,gH,gI,gJ,gK,gL,gM,gN,gO,gP,gQ,gR,gS,gT,gU,gV,gW,gX,gY,gZ,hA,hB,hC,hD,hE,hF,hG,hH,hI,hJ,hK,hL,hM,hN,hO,hP,hQ,hR,hS,hT,hU,hV,hW,hX,hY,hZ,h0,h1,h2,h3,h4,h5,h6,h7,h8,h9,jA,jB,jC,jD,jE,jF,jG,jH,jI,jJ,jK,jL,jM,jN,jO,jP,jQ,jR,jS,jT,jU,jV,jW,jX,jY,jZ,j0,j1,j2,j3,j4,j5,j6,j7,j8,j9,kA] M K = (idxA Ax11 lx11 1 x13).bind fun a_1 => (M.intAt .i64 a_1.block a_1.off).bind fun x_2 => (idxA Ax1 lx1 1 x12).bind fun a_3 => (M.intAt .i64 a_3.block a_3.off).bind fun x_4 => (idxA Ax0 lx0 1 x12).bind fun a_5 => (M.slAt a_5.block a_5.off).bind fun s_6 => (idxA s_6.1 (s_6.2.1) 1 x13).bind fun a_7 => (M.intAt .i64 a_7.block a_7.off).bind fun x_8 => (idxA Ax11 lx11 1 x13).bind fun a_9 => (M.put a_9.block a_9.off (.int .i64 (IntKind.i64.wrap (x_2 + (IntKind.i64.wrap (x_4 * x_8)))))).bind fun M_10 => K #[.slice Ax0 lx0 cx0,.slice Ax1 lx1 cx1,g2,g3,g4,g5,g6,g7,g8,g9,gA,.slice Ax11 lx11 cx11,.int .i64 x12,.int .i64 x13,gE,gF,gG,gH,gI,gJ,gK,gL,gM,gN,gO,gP,gQ,gR,gS,gT,gU,gV,gW,gX,gY,gZ,hA,hB,hC,hD,hE,hF,hG,hH,hI,hJ,hK,hL,hM,hN,hO,hP,hQ,hR,hS,hT,hU,hV,hW,hX,hY,hZ,h0,h1,h2,h3,h4,h5,h6,h7,h8,h9,jA,jB,.slice Ax11 lx11 cx11,.int .i64 x13,.slice Ax11 lx11 cx11,.int .i64 x13,.pointer (some a_1),.int .i64 x_2,.slice Ax1 lx1 cx1,.int .i64 x12,.pointer (some a_3),.int .i64 x_4,.slice Ax0 lx0 cx0,.int .i64 x12,.pointer (some a_5),.slice s_6.1 (s_6.2.1) (s_6.2.2),.int .i64 x13,.pointer (some a_7),.int .i64 x_8,.int .i64 (IntKind.i64.wrap (x_4 * x_8)),.int .i64 (IntKind.i64.wrap (x_2 + (IntKind.i64.wrap (x_4 * x_8)))),.pointer (some a_9),jW,jX,jY,jZ,j0,j1,j2,j3,j4,j5,j6,j7,j8,j9,kA] M_10 := by kernel_rfl
theorem k41_64 : P41 [1,1,1,1,0,1,0,0,1,0,0,1,1,0,0,1,1] = .region 17 (O41 [1,1,1,1,0,1,0,0,1,0,0,1,1,0,0,1,1]) false := by kernel_rfl
theorem r41_17 {x13 : Int} {M : Mem} {call : CallM} {K : Array Value → Mem → R} :
    opsK Try.prog (fun _ => call) (O41 [1,1,1,1,0,1,0,0,1,0,0,1,1,0,0,1,1]) (O41 [1,1,1,1,0,1,0,0,1,0,0,1,1,0,0,1,1]).toList 0 #[g0,g1,g2,g3,g4,g5,g6,g7,g8,g9,gA,gB,gC,.int .i64 x13,gE,gF,gG,gH,gI,gJ,gK,gL,gM,gN,gO,gP,gQ,gR,gS,gT,gU,gV,gW,gX,gY,gZ,hA,hB,hC,hD,hE,hF,hG,hH,hI,hJ,hK,hL,hM,hN,hO,hP,hQ,hR,hS,hT,hU,hV,hW,hX,hY,hZ,h0,h1,h2,h3,h4,h5,h6,h7,h8,h9,jA,jB,jC,jD,jE,jF,jG,jH,jI,jJ,jK,jL,jM,jN,jO,jP,jQ,jR,jS,jT,jU,jV,jW,jX,jY,jZ,j0,j1,j2,j3,j4,j5,j6,j7,j8,j9,kA] M K = K #[g0,g1,g2,g3,g4,g5,g6,g7,g8,g9,gA,gB,gC,.int .i64 (IntKind.i64.wrap (x13 + 1)),gE,gF,gG,gH,gI,gJ,gK,gL,gM,gN,gO,gP,gQ,gR,gS,gT,gU,gV,gW,gX,gY,gZ,hA,hB,hC,hD,hE,hF,hG,hH,hI,hJ,hK,hL,hM,hN,hO,hP,hQ,hR,hS,hT,hU,hV,hW,hX,hY,hZ,h0,h1,h2,h3,h4,h5,h6,h7,h8,h9,.int .i64 x13,.int .i64 (IntKind.i64.wrap (x13 + 1)),jC,jD,jE,jF,jG,jH,jI,jJ,jK,jL,jM,jN,jO,jP,jQ,jR,jS,jT,jU,jV,jW,jX,jY,jZ,j0,j1,j2,j3,j4,j5,j6,j7,j8,j9,kA] M := by kernel_rfl
theorem k41_65 : P41 [1,1,1,1,0,1,0,0,1,0,0,1,1,0,0,0,1,1] = .exit 2 := by kernel_rfl
theorem k41_66 : P41 [1,1,1,1,1,0,1,0,0] = .seq (P41 [1,1,1,1,1,0,1,0,0,0]) (P41 [1,1,1,1,1,0,1,0,0,1]) := by kernel_rfl
theorem k41_67 : P41 [1,1,1,1,1,0,1,0,0,0] = .seq (P41 [1,1,1,1,1,0,1,0,0,0,0]) (P41 [1,1,1,1,1,0,1,0,0,0,1]) := by kernel_rfl
theorem k41_68 : P41 [1,1,1,1,1,0,1,0,0,0,0] = .region 20 (O41 [1,1,1,1,1,0,1,0,0,0,0]) false := by kernel_rfl
theorem r41_20 {x10 x14 : Int} {M : Mem} {call : CallM} {K : Array Value → Mem → R} :
    opsK Try.prog (fun _ => call) (O41 [1,1,1,1,1,0,1,0,0,0,0]) (O41 [1,1,1,1,1,0,1,0,0,0,0]).toList 0 #[g0,g1,g2,g3,g4,g5,g6,g7,g8,g9,.int .i64 x10,gB,gC,gD,.int .i64 x14,gF,gG,gH,gI,gJ,gK,gL,gM,gN,gO,gP,gQ,gR,gS,gT,gU,gV,gW,gX,gY,gZ,hA,hB,hC,hD,hE,hF,hG,hH,hI,hJ,hK,hL,hM,hN,hO,hP,hQ,hR,hS,hT,hU,hV,hW,hX,hY,hZ,h0,h1,h2,h3,h4,h5,h6,h7,h8,h9,jA,jB,jC,jD,jE,jF,jG,jH,jI,jJ,jK,jL,jM,jN,jO,jP,jQ,jR,jS,jT,jU,jV,jW,jX,jY,jZ,j0,j1,j2,j3,j4,j5,j6,j7,j8,j9,kA] M K = K #[g0,g1,g2,g3,g4,g5,g6,g7,g8,g9,.int .i64 x10,gB,gC,gD,.int .i64 x14,gF,gG,gH,gI,gJ,gK,gL,gM,gN,gO,gP,gQ,gR,gS,gT,gU,gV,gW,gX,gY,gZ,hA,hB,hC,hD,hE,hF,hG,hH,hI,hJ,hK,hL,hM,hN,hO,hP,hQ,hR,hS,hT,hU,hV,hW,hX,hY,hZ,h0,h1,h2,h3,h4,h5,h6,h7,h8,h9,jA,jB,jC,jD,jE,jF,jG,jH,jI,jJ,jK,jL,jM,jN,jO,jP,jQ,jR,jS,jT,jU,jV,.int .i64 x14,.int .i64 x10,.bool (decide (x14 < x10)),jZ,j0,j1,j2,j3,j4,j5,j6,j7,j8,j9,kA] M := by kernel_rfl
theorem c41_69 : P41 [1,1,1,1,1,0,1,0,0,0,1] = .cond (.tmp 96) (P41 [1,1,1,1,1,0,1,0,0,0,1,0]) (P41 [1,1,1,1,1,0,1,0,0,0,1,1]) := by kernel_rfl
theorem k41_70 : P41 [1,1,1,1,1,0,1,0,0,0,1,0] = .skip := by kernel_rfl
theorem k41_71 : P41 [1,1,1,1,1,0,1,0,0,1] = .seq (P41 [1,1,1,1,1,0,1,0,0,1,0]) (P41 [1,1,1,1,1,0,1,0,0,1,1]) := by kernel_rfl
theorem k41_72 : P41 [1,1,1,1,1,0,1,0,0,1,0] = .block 5 (P41 [1,1,1,1,1,0,1,0,0,1,0,0]) := by kernel_rfl
theorem k41_73 : P41 [1,1,1,1,1,0,1,0,0,1,0,0] = .region 22 (O41 [1,1,1,1,1,0,1,0,0,1,0,0]) false := by kernel_rfl
theorem r41_22 {Ax11 : Option Addr} {lx11 cx11 : Nat} {x14 : Int} {M : Mem} {call : CallM} {K : Array Value → Mem → R} :
    opsK Try.prog (fun _ => call) (O41 [1,1,1,1,1,0,1,0,0,1,0,0]) (O41 [1,1,1,1,1,0,1,0,0,1,0,0]).toList 0 #[g0,g1,g2,g3,g4,g5,g6,g7,g8,g9,gA,.slice Ax11 lx11 cx11,gC,gD,.int .i64 x14,gF,gG,gH,gI,gJ,gK,gL,gM,gN,gO,gP,gQ,gR,gS,gT,gU,gV,gW,gX,gY,gZ,hA,hB,hC,hD,hE,hF,hG,hH,hI,hJ,hK,hL,hM,hN,hO,hP,hQ,hR,hS,hT,hU,hV,hW,hX,hY,hZ,h0,h1,h2,h3,h4,h5,h6,h7,h8,h9,jA,jB,jC,jD,jE,jF,jG,jH,jI,jJ,jK,jL,jM,jN,jO,jP,jQ,jR,jS,jT,jU,jV,jW,jX,jY,jZ,j0,j1,j2,j3,j4,j5,j6,j7,j8,j9,kA] M K = (idxA Ax11 lx11 1 x14).bind fun a_1 => (M.intAt .i64 a_1.block a_1.off).bind fun x_2 => (idxA Ax11 lx11 1 x14).bind fun a_3 => (M.put a_3.block a_3.off (.int .i64 ((IntKind.i64.wrap (x_2 + 2048)).fdiv (2 ^ 12)))).bind fun M_4 => K #[g0,g1,g2,g3,g4,g5,g6,g7,g8,g9,gA,.slice Ax11 lx11 cx11,gC,gD,.int .i64 x14,gF,gG,gH,gI,gJ,gK,gL,gM,gN,gO,gP,gQ,gR,gS,gT,gU,gV,gW,gX,gY,gZ,hA,hB,hC,hD,hE,hF,hG,hH,hI,hJ,hK,hL,hM,hN,hO,hP,hQ,hR,hS,hT,hU,hV,hW,hX,hY,hZ,h0,h1,h2,h3,h4,h5,h6,h7,h8,h9,jA,jB,jC,jD,jE,jF,jG,jH,jI,jJ,jK,jL,jM,jN,jO,jP,jQ,jR,jS,jT,jU,jV,jW,jX,jY,jZ,j0,.slice Ax11 lx11 cx11,.int .i64 x14,.slice Ax11 lx11 cx11,.int .i64 x14,.pointer (some a_1),.int .i64 x_2,.int .i64 (IntKind.i64.wrap (x_2 + 2048)),.int .i64 ((IntKind.i64.wrap (x_2 + 2048)).fdiv (2 ^ 12)),.pointer (some a_3),kA] M_4 := by kernel_rfl
theorem k41_74 : P41 [1,1,1,1,1,0,1,0,0,1,1] = .region 21 (O41 [1,1,1,1,1,0,1,0,0,1,1]) false := by kernel_rfl
theorem r41_21 {x14 : Int} {M : Mem} {call : CallM} {K : Array Value → Mem → R} :
    opsK Try.prog (fun _ => call) (O41 [1,1,1,1,1,0,1,0,0,1,1]) (O41 [1,1,1,1,1,0,1,0,0,1,1]).toList 0 #[g0,g1,g2,g3,g4,g5,g6,g7,g8,g9,gA,gB,gC,gD,.int .i64 x14,gF,gG,gH,gI,gJ,gK,gL,gM,gN,gO,gP,gQ,gR,gS,gT,gU,gV,gW,gX,gY,gZ,hA,hB,hC,hD,hE,hF,hG,hH,hI,hJ,hK,hL,hM,hN,hO,hP,hQ,hR,hS,hT,hU,hV,hW,hX,hY,hZ,h0,h1,h2,h3,h4,h5,h6,h7,h8,h9,jA,jB,jC,jD,jE,jF,jG,jH,jI,jJ,jK,jL,jM,jN,jO,jP,jQ,jR,jS,jT,jU,jV,jW,jX,jY,jZ,j0,j1,j2,j3,j4,j5,j6,j7,j8,j9,kA] M K = K #[g0,g1,g2,g3,g4,g5,g6,g7,g8,g9,gA,gB,gC,gD,.int .i64 (IntKind.i64.wrap (x14 + 1)),gF,gG,gH,gI,gJ,gK,gL,gM,gN,gO,gP,gQ,gR,gS,gT,gU,gV,gW,gX,gY,gZ,hA,hB,hC,hD,hE,hF,hG,hH,hI,hJ,hK,hL,hM,hN,hO,hP,hQ,hR,hS,hT,hU,hV,hW,hX,hY,hZ,h0,h1,h2,h3,h4,h5,h6,h7,h8,h9,jA,jB,jC,jD,jE,jF,jG,jH,jI,jJ,jK,jL,jM,jN,jO,jP,jQ,jR,jS,jT,jU,jV,jW,jX,jY,.int .i64 x14,.int .i64 (IntKind.i64.wrap (x14 + 1)),j1,j2,j3,j4,j5,j6,j7,j8,j9,kA] M := by kernel_rfl
theorem k41_75 : P41 [1,1,1,1,1,0,1,0,0,0,1,1] = .exit 4 := by kernel_rfl
theorem k41_76 : P41 [1,1,1,1,1,1] = .seq (P41 [1,1,1,1,1,1,0]) (P41 [1,1,1,1,1,1,1]) := by kernel_rfl
theorem k41_77 : P41 [1,1,1,1,1,1,0] = .region 23 (O41 [1,1,1,1,1,1,0]) false := by kernel_rfl
theorem r41_23 {Ax11 : Option Addr} {lx11 cx11 : Nat} {M : Mem} {call : CallM} {K : Array Value → Mem → R} :
    opsK Try.prog (fun _ => call) (O41 [1,1,1,1,1,1,0]) (O41 [1,1,1,1,1,1,0]).toList 0 #[g0,g1,g2,g3,g4,g5,g6,g7,g8,g9,gA,.slice Ax11 lx11 cx11,gC,gD,gE,gF,gG,gH,gI,gJ,gK,gL,gM,gN,gO,gP,gQ,gR,gS,gT,gU,gV,gW,gX,gY,gZ,hA,hB,hC,hD,hE,hF,hG,hH,hI,hJ,hK,hL,hM,hN,hO,hP,hQ,hR,hS,hT,hU,hV,hW,hX,hY,hZ,h0,h1,h2,h3,h4,h5,h6,h7,h8,h9,jA,jB,jC,jD,jE,jF,jG,jH,jI,jJ,jK,jL,jM,jN,jO,jP,jQ,jR,jS,jT,jU,jV,jW,jX,jY,jZ,j0,j1,j2,j3,j4,j5,j6,j7,j8,j9,kA] M K = K #[g0,g1,g2,g3,.slice Ax11 lx11 cx11,g5,g6,g7,g8,g9,gA,.slice Ax11 lx11 cx11,gC,gD,gE,gF,gG,gH,gI,gJ,gK,gL,gM,gN,gO,gP,gQ,gR,gS,gT,gU,gV,gW,gX,gY,gZ,hA,hB,hC,hD,hE,hF,hG,hH,hI,hJ,hK,hL,hM,hN,hO,hP,hQ,hR,hS,hT,hU,hV,hW,hX,hY,hZ,h0,h1,h2,h3,h4,h5,h6,h7,h8,h9,jA,jB,jC,jD,jE,jF,jG,jH,jI,jJ,jK,jL,jM,jN,jO,jP,jQ,jR,jS,jT,jU,jV,jW,jX,jY,jZ,j0,j1,j2,j3,j4,j5,j6,j7,j8,j9,.slice Ax11 lx11 cx11] M := by kernel_rfl
theorem k41_78 : P41 [1,1,1,1,1,1,1] = .ret := by kernel_rfl
noncomputable def S41_1 : List Item := [.code (P41 [1,1,1,1,0,1,0,0]), .inLoop (P41 [1,1,1,1,0,1,0,0]), .inBlock 0, .code (P41 [1,1,1,1,1])]
def A41_1 (Ax0 : Option Addr) (lx0 cx0 : Nat) (Ax1 : Option Addr) (lx1 cx1 : Nat) (x10 : Int) (Ax11 : Option Addr) (lx11 cx11 : Nat) (x12 : Int) (M : Mem) (Q : Value → Mem → Prop) : Prop := ∀ (g2 g3 g4 g5 g6 g7 g8 g9 gD gE gF gG gH gI gJ gK gL gM gN gO gP gQ gR gS gT gU gV gW gX gY gZ hA hB hC hD hE hF hG hH hI hJ hK hL hM hN hO hP hQ hR hS hT hU hV hW hX hY hZ h0 h1 h2 h3 h4 h5 h6 h7 h8 h9 jA jB jC jD jE jF jG jH jI jJ jK jL jM jN jO jP jQ jR jS jT jU jV jW jX jY jZ j0 j1 j2 j3 j4 j5 j6 j7 j8 j9 kA : Value), Rn Try.prog Try.f41 S41_1 #[.slice Ax0 lx0 cx0, .slice Ax1 lx1 cx1, g2, g3, g4, g5, g6, g7, g8, g9, .int .i64 x10, .slice Ax11 lx11 cx11, .int .i64 x12, gD, gE, gF, gG, gH, gI, gJ, gK, gL, gM, gN, gO, gP, gQ, gR, gS, gT, gU, gV, gW, gX, gY, gZ, hA, hB, hC, hD, hE, hF, hG, hH, hI, hJ, hK, hL, hM, hN, hO, hP, hQ, hR, hS, hT, hU, hV, hW, hX, hY, hZ, h0, h1, h2, h3, h4, h5, h6, h7, h8, h9, jA, jB, jC, jD, jE, jF, jG, jH, jI, jJ, jK, jL, jM, jN, jO, jP, jQ, jR, jS, jT, jU, jV, jW, jX, jY, jZ, j0, j1, j2, j3, j4, j5, j6, j7, j8, j9, kA] M Q
noncomputable def S41_2 : List Item := [.code (P41 [1,1,1,1,0,1,0,0,1,1]), .inLoop (P41 [1,1,1,1,0,1,0,0]), .inBlock 0, .code (P41 [1,1,1,1,1])]
def A41_2 (Ax0 : Option Addr) (lx0 cx0 : Nat) (Ax1 : Option Addr) (lx1 cx1 : Nat) (x10 : Int) (Ax11 : Option Addr) (lx11 cx11 : Nat) (x12 : Int) (M : Mem) (Q : Value → Mem → Prop) : Prop := ∀ (g2 g3 g4 g5 g6 g7 g8 g9 gD gE gF gG gH gI gJ gK gL gM gN gO gP gQ gR gS gT gU gV gW gX gY gZ hA hB hC hD hE hF hG hH hI hJ hK hL hM hN hO hP hQ hR hS hT hU hV hW hX hY hZ h0 h1 h2 h3 h4 h5 h6 h7 h8 h9 jA jB jC jD jE jF jG jH jI jJ jK jL jM jN jO jP jQ jR jS jT jU jV jW jX jY jZ j0 j1 j2 j3 j4 j5 j6 j7 j8 j9 kA : Value), Rn Try.prog Try.f41 S41_2 #[.slice Ax0 lx0 cx0, .slice Ax1 lx1 cx1, g2, g3, g4, g5, g6, g7, g8, g9, .int .i64 x10, .slice Ax11 lx11 cx11, .int .i64 x12, gD, gE, gF, gG, gH, gI, gJ, gK, gL, gM, gN, gO, gP, gQ, gR, gS, gT, gU, gV, gW, gX, gY, gZ, hA, hB, hC, hD, hE, hF, hG, hH, hI, hJ, hK, hL, hM, hN, hO, hP, hQ, hR, hS, hT, hU, hV, hW, hX, hY, hZ, h0, h1, h2, h3, h4, h5, h6, h7, h8, h9, jA, jB, jC, jD, jE, jF, jG, jH, jI, jJ, jK, jL, jM, jN, jO, jP, jQ, jR, jS, jT, jU, jV, jW, jX, jY, jZ, j0, j1, j2, j3, j4, j5, j6, j7, j8, j9, kA] M Q
noncomputable def S41_3 : List Item := [.code (P41 [1,1,1,1,0,1,0,0,1,0,0,1,1,0,0]), .inLoop (P41 [1,1,1,1,0,1,0,0,1,0,0,1,1,0,0]), .inBlock 2, .inBlock 1, .code (P41 [1,1,1,1,0,1,0,0,1,1]), .inLoop (P41 [1,1,1,1,0,1,0,0]), .inBlock 0, .code (P41 [1,1,1,1,1])]
def A41_3 (Ax0 : Option Addr) (lx0 cx0 : Nat) (Ax1 : Option Addr) (lx1 cx1 : Nat) (x10 : Int) (Ax11 : Option Addr) (lx11 cx11 : Nat) (x12 x13 : Int) (M : Mem) (Q : Value → Mem → Prop) : Prop := ∀ (g2 g3 g4 g5 g6 g7 g8 g9 gE gF gG gH gI gJ gK gL gM gN gO gP gQ gR gS gT gU gV gW gX gY gZ hA hB hC hD hE hF hG hH hI hJ hK hL hM hN hO hP hQ hR hS hT hU hV hW hX hY hZ h0 h1 h2 h3 h4 h5 h6 h7 h8 h9 jA jB jC jD jE jF jG jH jI jJ jK jL jM jN jO jP jQ jR jS jT jU jV jW jX jY jZ j0 j1 j2 j3 j4 j5 j6 j7 j8 j9 kA : Value), Rn Try.prog Try.f41 S41_3 #[.slice Ax0 lx0 cx0, .slice Ax1 lx1 cx1, g2, g3, g4, g5, g6, g7, g8, g9, .int .i64 x10, .slice Ax11 lx11 cx11, .int .i64 x12, .int .i64 x13, gE, gF, gG, gH, gI, gJ, gK, gL, gM, gN, gO, gP, gQ, gR, gS, gT, gU, gV, gW, gX, gY, gZ, hA, hB, hC, hD, hE, hF, hG, hH, hI, hJ, hK, hL, hM, hN, hO, hP, hQ, hR, hS, hT, hU, hV, hW, hX, hY, hZ, h0, h1, h2, h3, h4, h5, h6, h7, h8, h9, jA, jB, jC, jD, jE, jF, jG, jH, jI, jJ, jK, jL, jM, jN, jO, jP, jQ, jR, jS, jT, jU, jV, jW, jX, jY, jZ, j0, j1, j2, j3, j4, j5, j6, j7, j8, j9, kA] M Q
noncomputable def S41_4 : List Item := [.code (P41 [1,1,1,1,1,0,1,0,0]), .inLoop (P41 [1,1,1,1,1,0,1,0,0]), .inBlock 4, .code (P41 [1,1,1,1,1,1])]
def A41_4 (x10 : Int) (Ax11 : Option Addr) (lx11 cx11 : Nat) (x14 : Int) (M : Mem) (Q : Value → Mem → Prop) : Prop := ∀ (g0 g1 g2 g3 g4 g5 g6 g7 g8 g9 gC gD gF gG gH gI gJ gK gL gM gN gO gP gQ gR gS gT gU gV gW gX gY gZ hA hB hC hD hE hF hG hH hI hJ hK hL hM hN hO hP hQ hR hS hT hU hV hW hX hY hZ h0 h1 h2 h3 h4 h5 h6 h7 h8 h9 jA jB jC jD jE jF jG jH jI jJ jK jL jM jN jO jP jQ jR jS jT jU jV jW jX jY jZ j0 j1 j2 j3 j4 j5 j6 j7 j8 j9 kA : Value), Rn Try.prog Try.f41 S41_4 #[g0, g1, g2, g3, g4, g5, g6, g7, g8, g9, .int .i64 x10, .slice Ax11 lx11 cx11, gC, gD, .int .i64 x14, gF, gG, gH, gI, gJ, gK, gL, gM, gN, gO, gP, gQ, gR, gS, gT, gU, gV, gW, gX, gY, gZ, hA, hB, hC, hD, hE, hF, hG, hH, hI, hJ, hK, hL, hM, hN, hO, hP, hQ, hR, hS, hT, hU, hV, hW, hX, hY, hZ, h0, h1, h2, h3, h4, h5, h6, h7, h8, h9, jA, jB, jC, jD, jE, jF, jG, jH, jI, jJ, jK, jL, jM, jN, jO, jP, jQ, jR, jS, jT, jU, jV, jW, jX, jY, jZ, j0, j1, j2, j3, j4, j5, j6, j7, j8, j9, kA] M Q
theorem w41_0 {Ax0 : Option Addr} {lx0 cx0 : Nat} {Ax1 : Option Addr} {lx1 cx1 : Nat} {M : Mem} {Q : Value → Mem → Prop} (H :
    ((((lx0 : Int)) = 0 →
     ∃ a1', idxA Ax1 lx1 1 0 = some a1' ∧
     ∃ x2', M.intAt .i64 a1'.block a1'.off = some x2' ∧
     ∃ a3', idxA Ax1 lx1 1 1 = some a3' ∧
     ∃ x4', M.intAt .i64 a3'.block a3'.off = some x4' ∧
     ∃ a5', idxA Ax1 lx1 1 2 = some a5' ∧
     ∃ x6', M.intAt .i64 a5'.block a5'.off = some x6' ∧
     ∃ a7', idxA Ax1 lx1 1 3 = some a7' ∧
     ∃ x8', M.intAt .i64 a7'.block a7'.off = some x8' ∧
     Q (.slice (some ⟨2 * M.nb.size, 0, none⟩) 4 4) (M.new (.cells #[.int .i64 (IntKind.i64.wrap ((IntKind.i64.wrap (x2' + x4')) - (IntKind.i64.wrap (((IntKind.i64.wrap ((IntKind.i64.wrap (x2' + x4')) - (IntKind.i64.wrap (x6' - x8')))).fdiv (2 ^ 1)) - x8')))), .int .i64 (IntKind.i64.wrap (((IntKind.i64.wrap ((IntKind.i64.wrap (x2' + x4')) - (IntKind.i64.wrap (x6' - x8')))).fdiv (2 ^ 1)) - x8')), .int .i64 (IntKind.i64.wrap (((IntKind.i64.wrap ((IntKind.i64.wrap (x2' + x4')) - (IntKind.i64.wrap (x6' - x8')))).fdiv (2 ^ 1)) - x4')), .int .i64 (IntKind.i64.wrap ((IntKind.i64.wrap (x6' - x8')) + (IntKind.i64.wrap (((IntKind.i64.wrap ((IntKind.i64.wrap (x2' + x4')) - (IntKind.i64.wrap (x6' - x8')))).fdiv (2 ^ 1)) - x4'))))] 3))) ∧
     (((lx0 : Int)) ≠ 0 →
     ∃ r9', makeP Try.prog 22 (.int .i64 (lx1 : Int)) (.int .i64 (lx1 : Int)) M = some r9' ∧
     ∃ s10', asS r9'.1 = some s10' ∧
     A41_1 Ax0 lx0 cx0 Ax1 lx1 cx1 (lx1 : Int) s10'.1 s10'.2.1 s10'.2.2 0 r9'.2 Q))) :
    Cn Try.prog 41 #[.slice Ax0 lx0 cx0, .slice Ax1 lx1 cx1] M Q := by
  refine Cn.of b41 d41 t41 ?_
  refine Rn.seq k41_0 (Rn.region k41_1 (fun call K => r41_0) (Rch.leaf (Rn.seq k41_2 (Rn.seq k41_3 (Rn.region k41_4 (fun call K => r41_1) (Rch.leaf ?_))))))
  refine Rn.cnd (v := ((lx0 : Int)) == 0) ⟨c41_5, rfl, by kernel_rfl⟩ (fun h => ?_) (fun h => ?_)
  · replace H := H.1 (eq_of_beq h)
    refine Rn.seq k41_6 (Rn.regionD k41_7 (fun call K => r41_2) (Rch.ex H fun a1' H => Rch.ex H fun x2' H => Rch.ex H fun a3' H => Rch.ex H fun x4' H => Rch.ex H fun a5' H => Rch.ex H fun x6' H => Rch.ex H fun a7' H => Rch.ex H fun x8' H => Rch.leaf (Rn.seq k41_8 ?_)))
    refine Rn.region k41_9 (fun call K => r41_3) (Rch.leaf (Rn.seq k41_10 (Rn.region k41_11 (fun call K => r41_4) (Rch.leaf (Rn.seq k41_12 (Rn.region k41_13 (fun call K => r41_5) (Rch.leaf (Rn.seq k41_14 (Rn.region k41_15 (fun call K => r41_6) (Rch.leaf (Rn.seq k41_16 ?_)))))))))))
    refine Rn.region k41_17 (fun call K => r41_7) (Rch.leaf (Rn.seq k41_18 (Rn.region k41_19 (fun call K => r41_8) (Rch.leaf ?_))))
    exact Rn.ret k41_20 e41 H
  · replace H := H.2 (ne_of_beq_false h)
    refine Rn.skip k41_22 (Rn.seq k41_23 (Rn.region k41_24 (fun call K => r41_9) (Rch.leaf (Rn.seq k41_25 (Rn.region k41_26 (fun call K => r41_10) (Rch.ex H fun r9' H => Rch.ex H fun s10' H => Rch.leaf (Rn.seq k41_27 (Rn.seq k41_28 (Rn.region k41_29 (fun call K => r41_11) ?_)))))))))
    refine Rch.leaf (Rn.block k41_30 (Rn.loop k41_31 ?_))
    exact H _ _ _ _ _ _ _ _ _ _ _ _ _ _ _ _ _ _ _ _ _ _ _ _ _ _ _ _ _ _ _ _ _ _ _ _ _ _ _ _ _ _ _ _ _ _ _ _ _ _ _ _ _ _ _ _ _ _ _ _ _ _ _ _ _ _ _ _ _ _ _ _ _ _ _ _ _ _ _ _ _ _ _ _ _ _ _ _ _ _ _ _ _ _ _ _ _ _ _ _ _ _ _ _

theorem w41_1 {Ax0 : Option Addr} {lx0 cx0 : Nat} {Ax1 : Option Addr} {lx1 cx1 : Nat} {x10 : Int} {Ax11 : Option Addr} {lx11 cx11 : Nat} {x12 : Int} {M : Mem} {Q : Value → Mem → Prop} (H :
    ((x12 < x10 →
     ∃ a11', idxA Ax1 lx1 1 x12 = some a11' ∧
     ∃ x12', M.intAt .i64 a11'.block a11'.off = some x12' ∧
     ((x12' = 0 →
      A41_2 Ax0 lx0 cx0 Ax1 lx1 cx1 x10 Ax11 lx11 cx11 x12 M Q) ∧
      (x12' ≠ 0 →
      A41_3 Ax0 lx0 cx0 Ax1 lx1 cx1 x10 Ax11 lx11 cx11 x12 0 M Q))) ∧
     (¬ (x12 < x10) →
     A41_4 x10 Ax11 lx11 cx11 0 M Q))) :
    A41_1 Ax0 lx0 cx0 Ax1 lx1 cx1 x10 Ax11 lx11 cx11 x12 M Q := by
  intro g2 g3 g4 g5 g6 g7 g8 g9 gD gE gF gG gH gI gJ gK gL gM gN gO gP gQ gR gS gT gU gV gW gX gY gZ hA hB hC hD hE hF hG hH hI hJ hK hL hM hN hO hP hQ hR hS hT hU hV hW hX hY hZ h0 h1 h2 h3 h4 h5 h6 h7 h8 h9 jA jB jC jD jE jF jG jH jI jJ jK jL jM jN jO jP jQ jR jS jT jU jV jW jX jY jZ j0 j1 j2 j3 j4 j5 j6 j7 j8 j9 kA
  refine Rn.seq k41_32 (Rn.seq k41_33 (Rn.region k41_34 (fun call K => r41_12) (Rch.leaf ?_)))
  refine Rn.cnd (v := decide (x12 < x10)) ⟨c41_35, rfl, by kernel_rfl⟩ (fun h => ?_) (fun h => ?_)
  · replace H := H.1 (of_decide_eq_true h)
    refine Rn.skip k41_36 (Rn.seq k41_37 (Rn.block k41_38 (Rn.seq k41_39 (Rn.seq k41_40 (Rn.region k41_41 (fun call K => r41_14) (Rch.ex H fun a11' H => Rch.ex H fun x12' H => Rch.leaf ?_))))))
    refine Rn.cnd (v := x12' == 0) ⟨c41_42, rfl, by kernel_rfl⟩ (fun h => ?_) (fun h => ?_)
    · replace H := H.1 (eq_of_beq h)
      refine Rn.exit k41_43 rfl ?_
      exact H _ _ _ _ _ _ _ _ _ _ _ _ _ _ _ _ _ _ _ _ _ _ _ _ _ _ _ _ _ _ _ _ _ _ _ _ _ _ _ _ _ _ _ _ _ _ _ _ _ _ _ _ _ _ _ _ _ _ _ _ _ _ _ _ _ _ _ _ _ _ _ _ _ _ _ _ _ _ _ _ _ _ _ _ _ _ _ _ _ _ _ _ _ _ _ _ _ _ _ _ _ _ _ _
    · replace H := H.2 (ne_of_beq_false h)
      refine Rn.skip k41_44 (Rn.seq k41_45 (Rn.region k41_46 (fun call K => r41_15) (Rch.leaf (Rn.block k41_47 (Rn.loop k41_48 ?_)))))
      exact H _ _ _ _ _ _ _ _ _ _ _ _ _ _ _ _ _ _ _ _ _ _ _ _ _ _ _ _ _ _ _ _ _ _ _ _ _ _ _ _ _ _ _ _ _ _ _ _ _ _ _ _ _ _ _ _ _ _ _ _ _ _ _ _ _ _ _ _ _ _ _ _ _ _ _ _ _ _ _ _ _ _ _ _ _ _ _ _ _ _ _ _ _ _ _ _ _ _ _ _ _ _ _
  · replace H := H.2 (of_decide_eq_false h)
    refine Rn.exit k41_49 rfl (Rn.seq k41_50 (Rn.seq k41_51 (Rn.region k41_52 (fun call K => r41_19) (Rch.leaf (Rn.block k41_53 (Rn.loop k41_54 ?_))))))
    exact H _ _ _ _ _ _ _ _ _ _ _ _ _ _ _ _ _ _ _ _ _ _ _ _ _ _ _ _ _ _ _ _ _ _ _ _ _ _ _ _ _ _ _ _ _ _ _ _ _ _ _ _ _ _ _ _ _ _ _ _ _ _ _ _ _ _ _ _ _ _ _ _ _ _ _ _ _ _ _ _ _ _ _ _ _ _ _ _ _ _ _ _ _ _ _ _ _ _ _ _ _ _ _ _ _ _

theorem w41_2 {Ax0 : Option Addr} {lx0 cx0 : Nat} {Ax1 : Option Addr} {lx1 cx1 : Nat} {x10 : Int} {Ax11 : Option Addr} {lx11 cx11 : Nat} {x12 : Int} {M : Mem} {Q : Value → Mem → Prop} (H :
    A41_1 Ax0 lx0 cx0 Ax1 lx1 cx1 x10 Ax11 lx11 cx11 (IntKind.i64.wrap (x12 + 1)) M Q) :
    A41_2 Ax0 lx0 cx0 Ax1 lx1 cx1 x10 Ax11 lx11 cx11 x12 M Q := by
  intro g2 g3 g4 g5 g6 g7 g8 g9 gD gE gF gG gH gI gJ gK gL gM gN gO gP gQ gR gS gT gU gV gW gX gY gZ hA hB hC hD hE hF hG hH hI hJ hK hL hM hN hO hP hQ hR hS hT hU hV hW hX hY hZ h0 h1 h2 h3 h4 h5 h6 h7 h8 h9 jA jB jC jD jE jF jG jH jI jJ jK jL jM jN jO jP jQ jR jS jT jU jV jW jX jY jZ j0 j1 j2 j3 j4 j5 j6 j7 j8 j9 kA
  refine Rn.region k41_55 (fun call K => r41_13) (Rch.leaf (Rn.lp ?_))
  exact H _ _ _ _ _ _ _ _ _ _ _ _ _ _ _ _ _ _ _ _ _ _ _ _ _ _ _ _ _ _ _ _ _ _ _ _ _ _ _ _ _ _ _ _ _ _ _ _ _ _ _ _ _ _ _ _ _ _ _ _ _ _ _ _ _ _ _ _ _ _ _ _ _ _ _ _ _ _ _ _ _ _ _ _ _ _ _ _ _ _ _ _ _ _ _ _ _ _ _ _ _ _ _ _

theorem w41_3 {Ax0 : Option Addr} {lx0 cx0 : Nat} {Ax1 : Option Addr} {lx1 cx1 : Nat} {x10 : Int} {Ax11 : Option Addr} {lx11 cx11 : Nat} {x12 x13 : Int} {M : Mem} {Q : Value → Mem → Prop} (H :
    ((x13 < x10 →
     ∃ a13', idxA Ax11 lx11 1 x13 = some a13' ∧
     ∃ x14', M.intAt .i64 a13'.block a13'.off = some x14' ∧
     ∃ a15', idxA Ax1 lx1 1 x12 = some a15' ∧
     ∃ x16', M.intAt .i64 a15'.block a15'.off = some x16' ∧
     ∃ a17', idxA Ax0 lx0 1 x12 = some a17' ∧
     ∃ s18', M.slAt a17'.block a17'.off = some s18' ∧
     ∃ a19', idxA s18'.1 (s18'.2.1) 1 x13 = some a19' ∧
     ∃ x20', M.intAt .i64 a19'.block a19'.off = some x20' ∧
     ∃ a21', idxA Ax11 lx11 1 x13 = some a21' ∧
     ∃ M22', M.put a21'.block a21'.off (.int .i64 (IntKind.i64.wrap (x14' + (IntKind.i64.wrap (x16' * x20'))))) = some M22' ∧
     A41_3 Ax0 lx0 cx0 Ax1 lx1 cx1 x10 Ax11 lx11 cx11 x12 (IntKind.i64.wrap (x13 + 1)) M22' Q) ∧
     (¬ (x13 < x10) →
     A41_2 Ax0 lx0 cx0 Ax1 lx1 cx1 x10 Ax11 lx11 cx11 x12 M Q))) :
    A41_3 Ax0 lx0 cx0 Ax1 lx1 cx1 x10 Ax11 lx11 cx11 x12 x13 M Q := by
  intro g2 g3 g4 g5 g6 g7 g8 g9 gE gF gG gH gI gJ gK gL gM gN gO gP gQ gR gS gT gU gV gW gX gY gZ hA hB hC hD hE hF hG hH hI hJ hK hL hM hN hO hP hQ hR hS hT hU hV hW hX hY hZ h0 h1 h2 h3 h4 h5 h6 h7 h8 h9 jA jB jC jD jE jF jG jH jI jJ jK jL jM jN jO jP jQ jR jS jT jU jV jW jX jY jZ j0 j1 j2 j3 j4 j5 j6 j7 j8 j9 kA
  refine Rn.seq k41_56 (Rn.seq k41_57 (Rn.region k41_58 (fun call K => r41_16) (Rch.leaf ?_)))
  refine Rn.cnd (v := decide (x13 < x10)) ⟨c41_59, rfl, by kernel_rfl⟩ (fun h => ?_) (fun h => ?_)
  · replace H := H.1 (of_decide_eq_true h)
    refine Rn.skip k41_60 (Rn.seq k41_61 (Rn.block k41_62 (Rn.regionD k41_63 (fun call K => r41_18) (Rch.ex H fun a13' H => Rch.ex H fun x14' H => Rch.ex H fun a15' H => Rch.ex H fun x16' H => Rch.ex H fun a17' H => Rch.ex H fun s18' H => Rch.ex H fun a19' H => Rch.ex H fun x20' H => ?_))))
    refine Rch.ex H fun a21' H => Rch.ex H fun M22' H => Rch.leaf (Rn.blk (Rn.region k41_64 (fun call K => r41_17) (Rch.leaf (Rn.lp ?_))))
    exact H _ _ _ _ _ _ _ _ _ _ _ _ _ _ _ _ _ _ _ _ _ _ _ _ _ _ _ _ _ _ _ _ _ _ _ _ _ _ _ _ _ _ _ _ _ _ _ _ _ _ _ _ _ _ _ _ _ _ _ _ _ _ _ _ _ _ _ _ _ _ _ _ _ _ _ _ _ _ _ _ _ _ _ _ _ _ _ _ _ _ _ _ _ _ _ _ _ _ _ _ _ _ _
  · replace H := H.2 (of_decide_eq_false h)
    refine Rn.exit k41_65 rfl (Rn.blk ?_)
    exact H _ _ _ _ _ _ _ _ _ _ _ _ _ _ _ _ _ _ _ _ _ _ _ _ _ _ _ _ _ _ _ _ _ _ _ _ _ _ _ _ _ _ _ _ _ _ _ _ _ _ _ _ _ _ _ _ _ _ _ _ _ _ _ _ _ _ _ _ _ _ _ _ _ _ _ _ _ _ _ _ _ _ _ _ _ _ _ _ _ _ _ _ _ _ _ _ _ _ _ _ _ _ _ _

theorem w41_4 {x10 : Int} {Ax11 : Option Addr} {lx11 cx11 : Nat} {x14 : Int} {M : Mem} {Q : Value → Mem → Prop} (H :
    ((x14 < x10 →
     ∃ a23', idxA Ax11 lx11 1 x14 = some a23' ∧
     ∃ x24', M.intAt .i64 a23'.block a23'.off = some x24' ∧
     ∃ a25', idxA Ax11 lx11 1 x14 = some a25' ∧
     ∃ M26', M.put a25'.block a25'.off (.int .i64 ((IntKind.i64.wrap (x24' + 2048)).fdiv (2 ^ 12))) = some M26' ∧
     A41_4 x10 Ax11 lx11 cx11 (IntKind.i64.wrap (x14 + 1)) M26' Q) ∧
     (¬ (x14 < x10) →
     Q (.slice Ax11 lx11 cx11) M))) :
    A41_4 x10 Ax11 lx11 cx11 x14 M Q := by
  intro g0 g1 g2 g3 g4 g5 g6 g7 g8 g9 gC gD gF gG gH gI gJ gK gL gM gN gO gP gQ gR gS gT gU gV gW gX gY gZ hA hB hC hD hE hF hG hH hI hJ hK hL hM hN hO hP hQ hR hS hT hU hV hW hX hY hZ h0 h1 h2 h3 h4 h5 h6 h7 h8 h9 jA jB jC jD jE jF jG jH jI jJ jK jL jM jN jO jP jQ jR jS jT jU jV jW jX jY jZ j0 j1 j2 j3 j4 j5 j6 j7 j8 j9 kA
  refine Rn.seq k41_66 (Rn.seq k41_67 (Rn.region k41_68 (fun call K => r41_20) (Rch.leaf ?_)))
  refine Rn.cnd (v := decide (x14 < x10)) ⟨c41_69, rfl, by kernel_rfl⟩ (fun h => ?_) (fun h => ?_)
  · replace H := H.1 (of_decide_eq_true h)
    refine Rn.skip k41_70 (Rn.seq k41_71 (Rn.block k41_72 (Rn.region k41_73 (fun call K => r41_22) (Rch.ex H fun a23' H => Rch.ex H fun x24' H => Rch.ex H fun a25' H => Rch.ex H fun M26' H => Rch.leaf (Rn.blk (Rn.region k41_74 (fun call K => r41_21) (Rch.leaf ?_)))))))
    refine Rn.lp ?_
    exact H _ _ _ _ _ _ _ _ _ _ _ _ _ _ _ _ _ _ _ _ _ _ _ _ _ _ _ _ _ _ _ _ _ _ _ _ _ _ _ _ _ _ _ _ _ _ _ _ _ _ _ _ _ _ _ _ _ _ _ _ _ _ _ _ _ _ _ _ _ _ _ _ _ _ _ _ _ _ _ _ _ _ _ _ _ _ _ _ _ _ _ _ _ _ _ _ _ _ _ _ _ _ _ _ _ _
  · replace H := H.2 (of_decide_eq_false h)
    refine Rn.exit k41_75 rfl (Rn.seq k41_76 (Rn.region k41_77 (fun call K => r41_23) (Rch.leaf ?_)))
    exact Rn.ret k41_78 e41 H


/-! ### zoetrope/zoetroperef07.Weights: function 39 -/
noncomputable abbrev P39 (p : List Nat) : Code := subC (codeOf Try.f39) p
noncomputable abbrev O39 (p : List Nat) : Array Oper := opsOf (subC (codeOf Try.f39) p)
theorem b39 : Try.prog.funcs[39]? = some Try.f39 ∧ (Orc.tab Try.prog).lookup 39 = none := ⟨by kernel_rfl, by kernel_rfl⟩
theorem d39 : Try.f39.body = some (P39 []) := by kernel_rfl
theorem t39 {x0 x1 : Int} : #[.int .i64 x0,.int .i64 x1] ++ Array.replicate (Try.f39.ntmps - (#[.int .i64 x0,.int .i64 x1] : Array Value).size) undef = #[.int .i64 x0,.int .i64 x1,undef,undef,undef,undef,undef,undef,undef,undef] := by kernel_rfl
theorem k39_0 : P39 [] = .seq (P39 [0]) (P39 [1]) := by kernel_rfl
theorem k39_1 : P39 [0] = .region 0 (O39 [0]) false := by kernel_rfl
theorem r39_0 {M : Mem} {call : CallM} {K : Array Value → Mem → R} :
    opsK Try.prog (fun _ => call) (O39 [0]) (O39 [0]).toList 0 #[g0,g1,g2,g3,g4,g5,g6,g7,g8,g9] M K = K #[g0,g1,g2,g3,.slice none 0 0,g5,g6,g7,g8,g9] M := by kernel_rfl
theorem k39_2 : P39 [1] = .seq (P39 [1,0]) (P39 [1,1]) := by kernel_rfl
theorem k39_3 : P39 [1,0] = .seq (P39 [1,0,0]) (P39 [1,0,1]) := by kernel_rfl
theorem k39_4 : P39 [1,0,0] = .region 1 (O39 [1,0,0]) false := by kernel_rfl
theorem r39_1 {x0 : Int} {M : Mem} {call : CallM} {K : Array Value → Mem → R} :
    opsK Try.prog (fun _ => call) (O39 [1,0,0]) (O39 [1,0,0]).toList 0 #[.int .i64 x0,g1,g2,g3,g4,g5,g6,g7,g8,g9] M K = K #[.int .i64 x0,g1,g2,g3,g4,.int .i64 x0,.bool (x0 == 3),g7,g8,g9] M := by kernel_rfl
theorem c39_5 : P39 [1,0,1] = .cond (.tmp 6) (P39 [1,0,1,0]) (P39 [1,0,1,1]) := by kernel_rfl
theorem k39_6 : P39 [1,0,1,0] = .seq (P39 [1,0,1,0,0]) (P39 [1,0,1,0,1]) := by kernel_rfl
theorem k39_7 : P39 [1,0,1,0,0] = .region 2 (O39 [1,0,1,0,0]) false := by kernel_rfl
theorem r39_2 {M : Mem} {call : CallM} {K : Array Value → Mem → R} :
    opsK Try.prog (fun _ => call) (O39 [1,0,1,0,0]) (O39 [1,0,1,0,0]).toList 0 #[g0,g1,g2,g3,g4,g5,g6,g7,g8,g9] M K = K #[g0,g1,g2,g3,.slice none 0 0,g5,g6,g7,g8,g9] M := by kernel_rfl
theorem k39_8 : P39 [1,0,1,0,1] = .ret := by kernel_rfl
theorem e39 {M : Mem} : finish Try.prog Try.f39 #[g0,g1,g2,g3,g4,g5,g6,g7,g8,g9] M = some (g4, M) := by kernel_rfl
theorem k39_10 : P39 [1,0,1,1] = .skip := by kernel_rfl
theorem k39_11 : P39 [1,1] = .seq (P39 [1,1,0]) (P39 [1,1,1]) := by kernel_rfl
theorem k39_12 : P39 [1,1,0] = .region 3 (O39 [1,1,0]) false := by kernel_rfl
theorem r39_3 {x0 x1 : Int} {M : Mem} {call : CallM} {K : Array Value → Mem → R} :
    opsK Try.prog (fun _ => call) (O39 [1,1,0]) (O39 [1,1,0]).toList 0 #[.int .i64 x0,.int .i64 x1,g2,g3,g4,g5,g6,g7,g8,g9] M K = (call 55 #[.int .i64 x0, .int .i64 x1] M).bind fun r_1 => (asS r_1.1).bind fun s_2 => K #[.int .i64 x0,.int .i64 x1,g2,g3,.slice s_2.1 (s_2.2.1) (s_2.2.2),g5,g6,.int .i64 x0,.int .i64 x1,.slice s_2.1 (s_2.2.1) (s_2.2.2)] r_1.2 := by kernel_rfl
theorem k39_13 : P39 [1,1,1] = .ret := by kernel_rfl
theorem w39_0 {x0 x1 : Int} {M : Mem} {Q : Value → Mem → Prop} (H :
    ((x0 = 3 →
     Q (.slice none 0 0) M) ∧
     (x0 ≠ 3 →
     Cn Try.prog 55 #[.int .i64 x0, .int .i64 x1] M fun v1' N1' =>
      ∃ s2', asS v1' = some s2' ∧
      Q (.slice s2'.1 (s2'.2.1) (s2'.2.2)) N1'))) :
    Cn Try.prog 39 #[.int .i64 x0, .int .i64 x1] M Q := by
  refine Cn.of b39 d39 t39 ?_
  refine Rn.seq k39_0 (Rn.region k39_1 (fun call K => r39_0) (Rch.leaf (Rn.seq k39_2 (Rn.seq k39_3 (Rn.region k39_4 (fun call K => r39_1) (Rch.leaf ?_))))))
  refine Rn.cnd (v := x0 == 3) ⟨c39_5, rfl, by kernel_rfl⟩ (fun h => ?_) (fun h => ?_)
  · replace H := H.1 (eq_of_beq h)
    refine Rn.seq k39_6 (Rn.region k39_7 (fun call K => r39_2) (Rch.leaf ?_))
    exact Rn.ret k39_8 e39 H
  · replace H := H.2 (ne_of_beq_false h)
    refine Rn.skip k39_10 (Rn.seq k39_11 (Rn.region k39_12 (fun call K => r39_3) (Rch.call H fun v1' N1' H => Rch.ex H fun s2' H => Rch.leaf ?_)))
    exact Rn.ret k39_13 e39 H


/-! ### zoetrope/zoetroperef07.Matrix: function 55 -/
noncomputable abbrev P55 (p : List Nat) : Code := subC (codeOf Try.f55) p
noncomputable abbrev O55 (p : List Nat) : Array Oper := opsOf (subC (codeOf Try.f55) p)
theorem b55 : Try.prog.funcs[55]? = some Try.f55 ∧ (Orc.tab Try.prog).lookup 55 = none := ⟨by kernel_rfl, by kernel_rfl⟩
theorem d55 : Try.f55.body = some (P55 []) := by kernel_rfl
theorem t55 {x0 x1 : Int} : #[.int .i64 x0,.int .i64 x1] ++ Array.replicate (Try.f55.ntmps - (#[.int .i64 x0,.int .i64 x1] : Array Value).size) undef = #[.int .i64 x0,.int .i64 x1,undef,undef,undef,undef,undef,undef,undef,undef,undef,undef,undef,undef,undef,undef,undef,undef,undef,undef,undef,undef,undef,undef,undef,undef,undef,undef,undef,undef,undef,undef,undef,undef] := by kernel_rfl
theorem k55_0 : P55 [] = .seq (P55 [0]) (P55 [1]) := by kernel_rfl
theorem k55_1 : P55 [0] = .region 0 (O55 [0]) false := by kernel_rfl
theorem r55_0 {M : Mem} {call : CallM} {K : Array Value → Mem → R} :
    opsK Try.prog (fun _ => call) (O55 [0]) (O55 [0]).toList 0 #[g0,g1,g2,g3,g4,g5,g6,g7,g8,g9,gA,gB,gC,gD,gE,gF,gG,gH,gI,gJ,gK,gL,gM,gN,gO,gP,gQ,gR,gS,gT,gU,gV,gW,gX] M K = K #[g0,g1,g2,g3,.slice none 0 0,g5,g6,g7,g8,g9,gA,gB,gC,gD,gE,gF,gG,gH,gI,gJ,gK,gL,gM,gN,gO,gP,gQ,gR,gS,gT,gU,gV,gW,gX] M := by kernel_rfl
theorem k55_2 : P55 [1] = .seq (P55 [1,0]) (P55 [1,1]) := by kernel_rfl
theorem k55_3 : P55 [1,0] = .region 1 (O55 [1,0]) false := by kernel_rfl
theorem r55_1 {M : Mem} {call : CallM} {K : Array Value → Mem → R} :
    opsK Try.prog (fun _ => call) (O55 [1,0]) (O55 [1,0]).toList 0 #[g0,g1,g2,g3,g4,g5,g6,g7,g8,g9,gA,gB,gC,gD,gE,gF,gG,gH,gI,gJ,gK,gL,gM,gN,gO,gP,gQ,gR,gS,gT,gU,gV,gW,gX] M K = K #[g0,g1,g2,g3,g4,.slice none 0 0,g6,g7,g8,g9,gA,gB,gC,gD,gE,gF,gG,gH,gI,gJ,gK,gL,gM,gN,gO,gP,gQ,gR,gS,gT,gU,gV,gW,gX] M := by kernel_rfl
theorem k55_4 : P55 [1,1] = .seq (P55 [1,1,0]) (P55 [1,1,1]) := by kernel_rfl
theorem k55_5 : P55 [1,1,0] = .seq (P55 [1,1,0,0]) (P55 [1,1,0,1]) := by kernel_rfl
theorem k55_6 : P55 [1,1,0,0] = .region 2 (O55 [1,1,0,0]) false := by kernel_rfl
theorem r55_2 {M : Mem} {call : CallM} {K : Array Value → Mem → R} :
    opsK Try.prog (fun _ => call) (O55 [1,1,0,0]) (O55 [1,1,0,0]).toList 0 #[g0,g1,g2,g3,g4,g5,g6,g7,g8,g9,gA,gB,gC,gD,gE,gF,gG,gH,gI,gJ,gK,gL,gM,gN,gO,gP,gQ,gR,gS,gT,gU,gV,gW,gX] M K = K #[g0,g1,g2,g3,g4,g5,.int .i64 0,g7,g8,g9,gA,gB,gC,gD,gE,gF,gG,gH,gI,gJ,gK,gL,gM,gN,gO,gP,gQ,gR,gS,gT,gU,gV,gW,gX] M := by kernel_rfl
theorem k55_7 : P55 [1,1,0,1] = .block 0 (P55 [1,1,0,1,0]) := by kernel_rfl
theorem k55_8 : P55 [1,1,0,1,0] = .loop (P55 [1,1,0,1,0,0]) := by kernel_rfl
theorem k55_9 : P55 [1,1,0,1,0,0] = .seq (P55 [1,1,0,1,0,0,0]) (P55 [1,1,0,1,0,0,1]) := by kernel_rfl
theorem k55_10 : P55 [1,1,0,1,0,0,0] = .seq (P55 [1,1,0,1,0,0,0,0]) (P55 [1,1,0,1,0,0,0,1]) := by kernel_rfl
theorem k55_11 : P55 [1,1,0,1,0,0,0,0] = .region 3 (O55 [1,1,0,1,0,0,0,0]) false := by kernel_rfl
theorem r55_3 {x1 x6 : Int} {M : Mem} {call : CallM} {K : Array Value → Mem → R} :
    opsK Try.prog (fun _ => call) (O55 [1,1,0,1,0,0,0,0]) (O55 [1,1,0,1,0,0,0,0]).toList 0 #[g0,.int .i64 x1,g2,g3,g4,g5,.int .i64 x6,g7,g8,g9,gA,gB,gC,gD,gE,gF,gG,gH,gI,gJ,gK,gL,gM,gN,gO,gP,gQ,gR,gS,gT,gU,gV,gW,gX] M K = K #[g0,.int .i64 x1,g2,g3,g4,g5,.int .i64 x6,g7,g8,.int .i64 x6,.int .i64 x1,.bool (decide (x6 < x1)),gC,gD,gE,gF,gG,gH,gI,gJ,gK,gL,gM,gN,gO,gP,gQ,gR,gS,gT,gU,gV,gW,gX] M := by kernel_rfl
theorem c55_12 : P55 [1,1,0,1,0,0,0,1] = .cond (.tmp 11) (P55 [1,1,0,1,0,0,0,1,0]) (P55 [1,1,0,1,0,0,0,1,1]) := by kernel_rfl
theorem k55_13 : P55 [1,1,0,1,0,0,0,1,0] = .skip := by kernel_rfl
theorem k55_14 : P55 [1,1,0,1,0,0,1] = .seq (P55 [1,1,0,1,0,0,1,0]) (P55 [1,1,0,1,0,0,1,1]) := by kernel_rfl
theorem k55_15 : P55 [1,1,0,1,0,0,1,0] = .block 1 (P55 [1,1,0,1,0,0,1,0,0]) := by kernel_rfl
theorem k55_16 : P55 [1,1,0,1,0,0,1,0,0] = .seq (P55 [1,1,0,1,0,0,1,0,0,0]) (P55 [1,1,0,1,0,0,1,0,0,1]) := by kernel_rfl
theorem k55_17 : P55 [1,1,0,1,0,0,1,0,0,0] = .region 5 (O55 [1,1,0,1,0,0,1,0,0,0]) false := by kernel_rfl
theorem r55_5 {x1 : Int} {M : Mem} {call : CallM} {K : Array Value → Mem → R} :
    opsK Try.prog (fun _ => call) (O55 [1,1,0,1,0,0,1,0,0,0]) (O55 [1,1,0,1,0,0,1,0,0,0]).toList 0 #[g0,.int .i64 x1,g2,g3,g4,g5,g6,g7,g8,g9,gA,gB,gC,gD,gE,gF,gG,gH,gI,gJ,gK,gL,gM,gN,gO,gP,gQ,gR,gS,gT,gU,gV,gW,gX] M K = (makeP Try.prog 22 (.int .i64 x1) (.int .i64 x1) M).bind fun r_1 => (asS r_1.1).bind fun s_2 => K #[g0,.int .i64 x1,g2,g3,g4,g5,g6,.slice s_2.1 (s_2.2.1) (s_2.2.2),g8,g9,gA,gB,gC,gD,.int .i64 x1,.slice s_2.1 (s_2.2.1) (s_2.2.2),gG,gH,gI,gJ,gK,gL,gM,gN,gO,gP,gQ,gR,gS,gT,gU,gV,gW,gX] r_1.2 := by kernel_rfl
theorem k55_18 : P55 [1,1,0,1,0,0,1,0,0,1] = .seq (P55 [1,1,0,1,0,0,1,0,0,1,0]) (P55 [1,1,0,1,0,0,1,0,0,1,1]) := by kernel_rfl
theorem k55_19 : P55 [1,1,0,1,0,0,1,0,0,1,0] = .seq (P55 [1,1,0,1,0,0,1,0,0,1,0,0]) (P55 [1,1,0,1,0,0,1,0,0,1,0,1]) := by kernel_rfl
theorem k55_20 : P55 [1,1,0,1,0,0,1,0,0,1,0,0] = .region 6 (O55 [1,1,0,1,0,0,1,0,0,1,0,0]) false := by kernel_rfl
theorem r55_6 {M : Mem} {call : CallM} {K : Array Value → Mem → R} :
    opsK Try.prog (fun _ => call) (O55 [1,1,0,1,0,0,1,0,0,1,0,0]) (O55 [1,1,0,1,0,0,1,0,0,1,0,0]).toList 0 #[g0,g1,g2,g3,g4,g5,g6,g7,g8,g9,gA,gB,gC,gD,gE,gF,gG,gH,gI,gJ,gK,gL,gM,gN,gO,gP,gQ,gR,gS,gT,gU,gV,gW,gX] M K = K #[g0,g1,g2,g3,g4,g5,g6,g7,.int .i64 0,g9,gA,gB,gC,gD,gE,gF,gG,gH,gI,gJ,gK,gL,gM,gN,gO,gP,gQ,gR,gS,gT,gU,gV,gW,gX] M := by kernel_rfl
theorem k55_21 : P55 [1,1,0,1,0,0,1,0,0,1,0,1] = .block 2 (P55 [1,1,0,1,0,0,1,0,0,1,0,1,0]) := by kernel_rfl
theorem k55_22 : P55 [1,1,0,1,0,0,1,0,0,1,0,1,0] = .loop (P55 [1,1,0,1,0,0,1,0,0,1,0,1,0,0]) := by kernel_rfl
theorem k55_23 : P55 [1,1,0,1,0,0,0,1,1] = .exit 0 := by kernel_rfl
theorem k55_24 : P55 [1,1,1] = .seq (P55 [1,1,1,0]) (P55 [1,1,1,1]) := by kernel_rfl
theorem k55_25 : P55 [1,1,1,0] = .region 11 (O55 [1,1,1,0]) false := by kernel_rfl
theorem r55_11 {Ax5 : Option Addr} {lx5 cx5 : Nat} {M : Mem} {call : CallM} {K : Array Value → Mem → R} :
    opsK Try.prog (fun _ => call) (O55 [1,1,1,0]) (O55 [1,1,1,0]).toList 0 #[g0,g1,g2,g3,g4,.slice Ax5 lx5 cx5,g6,g7,g8,g9,gA,gB,gC,gD,gE,gF,gG,gH,gI,gJ,gK,gL,gM,gN,gO,gP,gQ,gR,gS,gT,gU,gV,gW,gX] M K = K #[g0,g1,g2,g3,.slice Ax5 lx5 cx5,.slice Ax5 lx5 cx5,g6,g7,g8,g9,gA,gB,gC,gD,gE,gF,gG,gH,gI,gJ,gK,gL,gM,gN,gO,gP,gQ,gR,gS,gT,gU,gV,gW,.slice Ax5 lx5 cx5] M := by kernel_rfl
theorem k55_26 : P55 [1,1,1,1] = .ret := by kernel_rfl
theorem e55 {M : Mem} : finish Try.prog Try.f55 #[g0,g1,g2,g3,g4,g5,g6,g7,g8,g9,gA,gB,gC,gD,gE,gF,gG,gH,gI,gJ,gK,gL,gM,gN,gO,gP,gQ,gR,gS,gT,gU,gV,gW,gX] M = some (g4, M) := by kernel_rfl
theorem k55_28 : P55 [1,1,0,1,0,0,1,0,0,1,0,1,0,0] = .seq (P55 [1,1,0,1,0,0,1,0,0,1,0,1,0,0,0]) (P55 [1,1,0,1,0,0,1,0,0,1,0,1,0,0,1]) := by kernel_rfl
theorem k55_29 : P55 [1,1,0,1,0,0,1,0,0,1,0,1,0,0,0] = .seq (P55 [1,1,0,1,0,0,1,0,0,1,0,1,0,0,0,0]) (P55 [1,1,0,1,0,0,1,0,0,1,0,1,0,0,0,1]) := by kernel_rfl
theorem k55_30 : P55 [1,1,0,1,0,0,1,0,0,1,0,1,0,0,0,0] = .region 7 (O55 [1,1,0,1,0,0,1,0,0,1,0,1,0,0,0,0]) false := by kernel_rfl
theorem r55_7 {x1 x8 : Int} {M : Mem} {call : CallM} {K : Array Value → Mem → R} :
    opsK Try.prog (fun _ => call) (O55 [1,1,0,1,0,0,1,0,0,1,0,1,0,0,0,0]) (O55 [1,1,0,1,0,0,1,0,0,1,0,1,0,0,0,0]).toList 0 #[g0,.int .i64 x1,g2,g3,g4,g5,g6,g7,.int .i64 x8,g9,gA,gB,gC,gD,gE,gF,gG,gH,gI,gJ,gK,gL,gM,gN,gO,gP,gQ,gR,gS,gT,gU,gV,gW,gX] M K = K #[g0,.int .i64 x1,g2,g3,g4,g5,g6,g7,.int .i64 x8,g9,gA,gB,gC,gD,gE,gF,.int .i64 x8,.int .i64 x1,.bool (decide (x8 < x1)),gJ,gK,gL,gM,gN,gO,gP,gQ,gR,gS,gT,gU,gV,gW,gX] M := by kernel_rfl
theorem c55_31 : P55 [1,1,0,1,0,0,1,0,0,1,0,1,0,0,0,1] = .cond (.tmp 18) (P55 [1,1,0,1,0,0,1,0,0,1,0,1,0,0,0,1,0]) (P55 [1,1,0,1,0,0,1,0,0,1,0,1,0,0,0,1,1]) := by kernel_rfl
theorem k55_32 : P55 [1,1,0,1,0,0,1,0,0,1,0,1,0,0,0,1,0] = .skip := by kernel_rfl
theorem k55_33 : P55 [1,1,0,1,0,0,1,0,0,1,0,1,0,0,1] = .seq (P55 [1,1,0,1,0,0,1,0,0,1,0,1,0,0,1,0]) (P55 [1,1,0,1,0,0,1,0,0,1,0,1,0,0,1,1]) := by kernel_rfl
theorem k55_34 : P55 [1,1,0,1,0,0,1,0,0,1,0,1,0,0,1,0] = .block 3 (P55 [1,1,0,1,0,0,1,0,0,1,0,1,0,0,1,0,0]) := by kernel_rfl
theorem k55_35 : P55 [1,1,0,1,0,0,1,0,0,1,0,1,0,0,1,0,0] = .region 9 (O55 [1,1,0,1,0,0,1,0,0,1,0,1,0,0,1,0,0]) false := by kernel_rfl
theorem r55_9 {x0 x1 x6 : Int} {Ax7 : Option Addr} {lx7 cx7 : Nat} {x8 : Int} {M : Mem} {call : CallM} {K : Array Value → Mem → R} :
    opsK Try.prog (fun _ => call) (O55 [1,1,0,1,0,0,1,0,0,1,0,1,0,0,1,0,0]) (O55 [1,1,0,1,0,0,1,0,0,1,0,1,0,0,1,0,0]).toList 0 #[.int .i64 x0,.int .i64 x1,g2,g3,g4,g5,.int .i64 x6,.slice Ax7 lx7 cx7,.int .i64 x8,g9,gA,gB,gC,gD,gE,gF,gG,gH,gI,gJ,gK,gL,gM,gN,gO,gP,gQ,gR,gS,gT,gU,gV,gW,gX] M K = (call 67 #[.int .i64 x0, .int .i64 x1, .int .i64 x6, .int .i64 x8] M).bind fun r_1 => (asI .i64 r_1.1).bind fun x_2 => (idxA Ax7 lx7 1 x8).bind fun a_3 => (r_1.2.put a_3.block a_3.off (.int .i64 x_2)).bind fun M_4 => K #[.int .i64 x0,.int .i64 x1,g2,g3,g4,g5,.int .i64 x6,.slice Ax7 lx7 cx7,.int .i64 x8,g9,gA,gB,gC,gD,gE,gF,gG,gH,gI,gJ,gK,.slice Ax7 lx7 cx7,.int .i64 x8,.int .i64 x0,.int .i64 x1,.int .i64 x6,.int .i64 x8,.int .i64 x_2,.pointer (some a_3),gT,gU,gV,gW,gX] M_4 := by kernel_rfl
theorem k55_36 : P55 [1,1,0,1,0,0,1,0,0,1,0,1,0,0,1,1] = .region 8 (O55 [1,1,0,1,0,0,1,0,0,1,0,1,0,0,1,1]) false := by kernel_rfl
theorem r55_8 {x8 : Int} {M : Mem} {call : CallM} {K : Array Value → Mem → R} :
    opsK Try.prog (fun _ => call) (O55 [1,1,0,1,0,0,1,0,0,1,0,1,0,0,1,1]) (O55 [1,1,0,1,0,0,1,0,0,1,0,1,0,0,1,1]).toList 0 #[g0,g1,g2,g3,g4,g5,g6,g7,.int .i64 x8,g9,gA,gB,gC,gD,gE,gF,gG,gH,gI,gJ,gK,gL,gM,gN,gO,gP,gQ,gR,gS,gT,gU,gV,gW,gX] M K = K #[g0,g1,g2,g3,g4,g5,g6,g7,.int .i64 (IntKind.i64.wrap (x8 + 1)),g9,gA,gB,gC,gD,gE,gF,gG,gH,gI,.int .i64 x8,.int .i64 (IntKind.i64.wrap (x8 + 1)),gL,gM,gN,gO,gP,gQ,gR,gS,gT,gU,gV,gW,gX] M := by kernel_rfl
theorem k55_37 : P55 [1,1,0,1,0,0,1,0,0,1,0,1,0,0,0,1,1] = .exit 2 := by kernel_rfl
theorem k55_38 : P55 [1,1,0,1,0,0,1,0,0,1,1] = .region 10 (O55 [1,1,0,1,0,0,1,0,0,1,1]) false := by kernel_rfl
theorem r55_10 {Ax5 : Option Addr} {lx5 cx5 : Nat} {Ax7 : Option Addr} {lx7 cx7 : Nat} {M : Mem} {call : CallM} {K : Array Value → Mem → R} :
    opsK Try.prog (fun _ => call) (O55 [1,1,0,1,0,0,1,0,0,1,1]) (O55 [1,1,0,1,0,0,1,0,0,1,1]).toList 0 #[g0,g1,g2,g3,g4,.slice Ax5 lx5 cx5,g6,.slice Ax7 lx7 cx7,g8,g9,gA,gB,gC,gD,gE,gF,gG,gH,gI,gJ,gK,gL,gM,gN,gO,gP,gQ,gR,gS,gT,gU,gV,gW,gX] M K = (appendP Try.prog #[50, 50] (.slice Ax5 lx5 cx5) (.slice (some ⟨2 * M.nb.size, 0, none⟩) 1 1) (M.new (.cells #[.slice Ax7 lx7 cx7] 22))).bind fun r_1 => (asS r_1.1).bind fun s_2 => K #[g0,g1,g2,g3,g4,.slice s_2.1 (s_2.2.1) (s_2.2.2),g6,.slice Ax7 lx7 cx7,g8,g9,gA,gB,gC,gD,gE,gF,gG,gH,gI,gJ,gK,gL,gM,gN,gO,gP,gQ,gR,gS,.slice Ax5 lx5 cx5,.slice Ax7 lx7 cx7,.slice (some ⟨2 * M.nb.size, 0, none⟩) 1 1,.slice s_2.1 (s_2.2.1) (s_2.2.2),gX] r_1.2 := by kernel_rfl
theorem k55_39 : P55 [1,1,0,1,0,0,1,1] = .region 4 (O55 [1,1,0,1,0,0,1,1]) false := by kernel_rfl
theorem r55_4 {x6 : Int} {M : Mem} {call : CallM} {K : Array Value → Mem → R} :
    opsK Try.prog (fun _ => call) (O55 [1,1,0,1,0,0,1,1]) (O55 [1,1,0,1,0,0,1,1]).toList 0 #[g0,g1,g2,g3,g4,g5,.int .i64 x6,g7,g8,g9,gA,gB,gC,gD,gE,gF,gG,gH,gI,gJ,gK,gL,gM,gN,gO,gP,gQ,gR,gS,gT,gU,gV,gW,gX] M K = K #[g0,g1,g2,g3,g4,g5,.int .i64 (IntKind.i64.wrap (x6 + 1)),g7,g8,g9,gA,gB,.int .i64 x6,.int .i64 (IntKind.i64.wrap (x6 + 1)),gE,gF,gG,gH,gI,gJ,gK,gL,gM,gN,gO,gP,gQ,gR,gS,gT,gU,gV,gW,gX] M := by kernel_rfl
noncomputable def S55_1 : List Item := [.code (P55 [1,1,0,1,0,0]), .inLoop (P55 [1,1,0,1,0,0]), .inBlock 0, .code (P55 [1,1,1])]
def A55_1 (x0 x1 : Int) (Ax5 : Option Addr) (lx5 cx5 : Nat) (x6 : Int) (M : Mem) (Q : Value → Mem → Prop) : Prop := ∀ (g2 g3 g4 g7 g8 g9 gA gB gC gD gE gF gG gH gI gJ gK gL gM gN gO gP gQ gR gS gT gU gV gW gX : Value), Rn Try.prog Try.f55 S55_1 #[.int .i64 x0, .int .i64 x1, g2, g3, g4, .slice Ax5 lx5 cx5, .int .i64 x6, g7, g8, g9, gA, gB, gC, gD, gE, gF, gG, gH, gI, gJ, gK, gL, gM, gN, gO, gP, gQ, gR, gS, gT, gU, gV, gW, gX] M Q
noncomputable def S55_2 : List Item := [.code (P55 [1,1,0,1,0,0,1,0,0,1,0,1,0,0]), .inLoop (P55 [1,1,0,1,0,0,1,0,0,1,0,1,0,0]), .inBlock 2, .code (P55 [1,1,0,1,0,0,1,0,0,1,1]), .inBlock 1, .code (P55 [1,1,0,1,0,0,1,1]), .inLoop (P55 [1,1,0,1,0,0]), .inBlock 0, .code (P55 [1,1,1])]
def A55_2 (x0 x1 : Int) (Ax5 : Option Addr) (lx5 cx5 : Nat) (x6 : Int) (Ax7 : Option Addr) (lx7 cx7 : Nat) (x8 : Int) (M : Mem) (Q : Value → Mem → Prop) : Prop := ∀ (g2 g3 g4 g9 gA gB gC gD gE gF gG gH gI gJ gK gL gM gN gO gP gQ gR gS gT gU gV gW gX : Value), Rn Try.prog Try.f55 S55_2 #[.int .i64 x0, .int .i64 x1, g2, g3, g4, .slice Ax5 lx5 cx5, .int .i64 x6, .slice Ax7 lx7 cx7, .int .i64 x8, g9, gA, gB, gC, gD, gE, gF, gG, gH, gI, gJ, gK, gL, gM, gN, gO, gP, gQ, gR, gS, gT, gU, gV, gW, gX] M Q
theorem w55_0 {x0 x1 : Int} {M : Mem} {Q : Value → Mem → Prop} (H :
    A55_1 x0 x1 none 0 0 0 M Q) :
    Cn Try.prog 55 #[.int .i64 x0, .int .i64 x1] M Q := by
  refine Cn.of b55 d55 t55 ?_
  refine Rn.seq k55_0 (Rn.region k55_1 (fun call K => r55_0) (Rch.leaf (Rn.seq k55_2 (Rn.region k55_3 (fun call K => r55_1) (Rch.leaf (Rn.seq k55_4 (Rn.seq k55_5 (Rn.region k55_6 (fun call K => r55_2) (Rch.leaf (Rn.block k55_7 (Rn.loop k55_8 ?_)))))))))))
  exact H _ _ _ _ _ _ _ _ _ _ _ _ _ _ _ _ _ _ _ _ _ _ _ _ _ _ _ _ _ _

theorem w55_1 {x0 x1 : Int} {Ax5 : Option Addr} {lx5 cx5 : Nat} {x6 : Int} {M : Mem} {Q : Value → Mem → Prop} (H :
    ((x6 < x1 →
     ∃ r1', makeP Try.prog 22 (.int .i64 x1) (.int .i64 x1) M = some r1' ∧
     ∃ s2', asS r1'.1 = some s2' ∧
     A55_2 x0 x1 Ax5 lx5 cx5 x6 s2'.1 s2'.2.1 s2'.2.2 0 r1'.2 Q) ∧
     (¬ (x6 < x1) →
     Q (.slice Ax5 lx5 cx5) M))) :
    A55_1 x0 x1 Ax5 lx5 cx5 x6 M Q := by
  intro g2 g3 g4 g7 g8 g9 gA gB gC gD gE gF gG gH gI gJ gK gL gM gN gO gP gQ gR gS gT gU gV gW gX
  refine Rn.seq k55_9 (Rn.seq k55_10 (Rn.region k55_11 (fun call K => r55_3) (Rch.leaf ?_)))
  refine Rn.cnd (v := decide (x6 < x1)) ⟨c55_12, rfl, by kernel_rfl⟩ (fun h => ?_) (fun h => ?_)
  · replace H := H.1 (of_decide_eq_true h)
    refine Rn.skip k55_13 (Rn.seq k55_14 (Rn.block k55_15 (Rn.seq k55_16 (Rn.region k55_17 (fun call K => r55_5) (Rch.ex H fun r1' H => Rch.ex H fun s2' H => Rch.leaf (Rn.seq k55_18 (Rn.seq k55_19 (Rn.region k55_20 (fun call K => r55_6) (Rch.leaf ?_)))))))))
    refine Rn.block k55_21 (Rn.loop k55_22 ?_)
    exact H _ _ _ _ _ _ _ _ _ _ _ _ _ _ _ _ _ _ _ _ _ _ _ _ _ _ _ _
  · replace H := H.2 (of_decide_eq_false h)
    refine Rn.exit k55_23 rfl (Rn.seq k55_24 (Rn.region k55_25 (fun call K => r55_11) (Rch.leaf ?_)))
    exact Rn.ret k55_26 e55 H

theorem w55_2 {x0 x1 : Int} {Ax5 : Option Addr} {lx5 cx5 : Nat} {x6 : Int} {Ax7 : Option Addr} {lx7 cx7 : Nat} {x8 : Int} {M : Mem} {Q : Value → Mem → Prop} (H :
    ((x8 < x1 →
     Cn Try.prog 67 #[.int .i64 x0, .int .i64 x1, .int .i64 x6, .int .i64 x8] M fun v3' N3' =>
      ∃ x4', asI .i64 v3' = some x4' ∧
      ∃ a5', idxA Ax7 lx7 1 x8 = some a5' ∧
      ∃ M6', N3'.put a5'.block a5'.off (.int .i64 x4') = some M6' ∧
      A55_2 x0 x1 Ax5 lx5 cx5 x6 Ax7 lx7 cx7 (IntKind.i64.wrap (x8 + 1)) M6' Q) ∧
     (¬ (x8 < x1) →
     ∃ r7', appendP Try.prog #[50, 50] (.slice Ax5 lx5 cx5) (.slice (some ⟨2 * M.nb.size, 0, none⟩) 1 1) (M.new (.cells #[.slice Ax7 lx7 cx7] 22)) = some r7' ∧
     ∃ s8', asS r7'.1 = some s8' ∧
     A55_1 x0 x1 s8'.1 s8'.2.1 s8'.2.2 (IntKind.i64.wrap (x6 + 1)) r7'.2 Q))) :
    A55_2 x0 x1 Ax5 lx5 cx5 x6 Ax7 lx7 cx7 x8 M Q := by
  intro g2 g3 g4 g9 gA gB gC gD gE gF gG gH gI gJ gK gL gM gN gO gP gQ gR gS gT gU gV gW gX
  refine Rn.seq k55_28 (Rn.seq k55_29 (Rn.region k55_30 (fun call K => r55_7) (Rch.leaf ?_)))
  refine Rn.cnd (v := decide (x8 < x1)) ⟨c55_31, rfl, by kernel_rfl⟩ (fun h => ?_) (fun h => ?_)
  · replace H := H.1 (of_decide_eq_true h)
    refine Rn.skip k55_32 (Rn.seq k55_33 (Rn.block k55_34 (Rn.region k55_35 (fun call K => r55_9) (Rch.call H fun v3' N3' H => Rch.ex H fun x4' H => Rch.ex H fun a5' H => Rch.ex H fun M6' H => Rch.leaf (Rn.blk (Rn.region k55_36 (fun call K => r55_8) (Rch.leaf ?_)))))))
    refine Rn.lp ?_
    exact H _ _ _ _ _ _ _ _ _ _ _ _ _ _ _ _ _ _ _ _ _ _ _ _ _ _ _ _
  · replace H := H.2 (of_decide_eq_false h)
    refine Rn.exit k55_37 rfl (Rn.region k55_38 (fun call K => r55_10) (Rch.ex H fun r7' H => Rch.ex H fun s8' H => Rch.leaf (Rn.blk (Rn.region k55_39 (fun call K => r55_4) (Rch.leaf (Rn.lp ?_))))))
    exact H _ _ _ _ _ _ _ _ _ _ _ _ _ _ _ _ _ _ _ _ _ _ _ _ _ _ _ _ _ _


/-! ### zoetrope/zoetroperef07.weight: function 67 -/
noncomputable abbrev P67 (p : List Nat) : Code := subC (codeOf Try.f67) p
noncomputable abbrev O67 (p : List Nat) : Array Oper := opsOf (subC (codeOf Try.f67) p)
theorem b67 : Try.prog.funcs[67]? = some Try.f67 ∧ (Orc.tab Try.prog).lookup 67 = none := ⟨by kernel_rfl, by kernel_rfl⟩
theorem d67 : Try.f67.body = some (P67 []) := by kernel_rfl
theorem t67 {x0 x1 x2 x3 : Int} : #[.int .i64 x0,.int .i64 x1,.int .i64 x2,.int .i64 x3] ++ Array.replicate (Try.f67.ntmps - (#[.int .i64 x0,.int .i64 x1,.int .i64 x2,.int .i64 x3] : Array Value).size) undef = #[.int .i64 x0,.int .i64 x1,.int .i64 x2,.int .i64 x3,undef,undef,undef,undef,undef,undef,undef,undef,undef,undef,undef,undef,undef,undef,undef,undef,undef,undef,undef,undef,undef,undef,undef,undef,undef,undef,undef,undef,undef,undef,undef,undef,undef,undef,undef,undef,undef,undef,undef,undef,undef,undef,undef,undef,undef,undef,undef,undef,undef,undef,undef,undef,undef] := by kernel_rfl
theorem k67_0 : P67 [] = .seq (P67 [0]) (P67 [1]) := by kernel_rfl
theorem k67_1 : P67 [0] = .region 0 (O67 [0]) false := by kernel_rfl
theorem r67_0 {M : Mem} {call : CallM} {K : Array Value → Mem → R} :
    opsK Try.prog (fun _ => call) (O67 [0]) (O67 [0]).toList 0 #[g0,g1,g2,g3,g4,g5,g6,g7,g8,g9,gA,gB,gC,gD,gE,gF,gG,gH,gI,gJ,gK,gL,gM,gN,gO,gP,gQ,gR,gS,gT,gU,gV,gW,gX,gY,gZ,hA,hB,hC,hD,hE,hF,hG,hH,hI,hJ,hK,hL,hM,hN,hO,hP,hQ,hR,hS,hT,hU] M K = K #[g0,g1,g2,g3,g4,g5,g6,g7,.int .i64 0,g9,gA,gB,gC,gD,gE,gF,gG,gH,gI,gJ,gK,gL,gM,gN,gO,gP,gQ,gR,gS,gT,gU,gV,gW,gX,gY,gZ,hA,hB,hC,hD,hE,hF,hG,hH,hI,hJ,hK,hL,hM,hN,hO,hP,hQ,hR,hS,hT,hU] M := by kernel_rfl
theorem k67_2 : P67 [1] = .seq (P67 [1,0]) (P67 [1,1]) := by kernel_rfl
theorem k67_3 : P67 [1,0] = .block 0 (P67 [1,0,0]) := by kernel_rfl
theorem k67_4 : P67 [1,0,0] = .seq (P67 [1,0,0,0]) (P67 [1,0,0,1]) := by kernel_rfl
theorem k67_5 : P67 [1,0,0,0] = .region 1 (O67 [1,0,0,0]) false := by kernel_rfl
theorem r67_1 {x0 : Int} {M : Mem} {call : CallM} {K : Array Value → Mem → R} :
    opsK Try.prog (fun _ => call) (O67 [1,0,0,0]) (O67 [1,0,0,0]).toList 0 #[.int .i64 x0,g1,g2,g3,g4,g5,g6,g7,g8,g9,gA,gB,gC,gD,gE,gF,gG,gH,gI,gJ,gK,gL,gM,gN,gO,gP,gQ,gR,gS,gT,gU,gV,gW,gX,gY,gZ,hA,hB,hC,hD,hE,hF,hG,hH,hI,hJ,hK,hL,hM,hN,hO,hP,hQ,hR,hS,hT,hU] M K = K #[.int .i64 x0,g1,g2,g3,g4,g5,g6,g7,g8,.bool (x0 == 1),.int .i64 x0,.bool (x0 == 1),gC,gD,gE,gF,gG,gH,gI,gJ,gK,gL,gM,gN,gO,gP,gQ,gR,gS,gT,gU,gV,gW,gX,gY,gZ,hA,hB,hC,hD,hE,hF,hG,hH,hI,hJ,hK,hL,hM,hN,hO,hP,hQ,hR,hS,hT,hU] M := by kernel_rfl
theorem c67_6 : P67 [1,0,0,1] = .cond (.tmp 9) (P67 [1,0,0,1,0]) (P67 [1,0,0,1,1]) := by kernel_rfl
theorem k67_7 : P67 [1,0,0,1,0] = .seq (P67 [1,0,0,1,0,0]) (P67 [1,0,0,1,0,1]) := by kernel_rfl
theorem k67_8 : P67 [1,0,0,1,0,0] = .region 2 (O67 [1,0,0,1,0,0]) false := by kernel_rfl
theorem r67_2 {x1 x2 x3 : Int} {M : Mem} {call : CallM} {K : Array Value → Mem → R} :
    opsK Try.prog (fun _ => call) (O67 [1,0,0,1,0,0]) (O67 [1,0,0,1,0,0]).toList 0 #[g0,.int .i64 x1,.int .i64 x2,.int .i64 x3,g4,g5,g6,g7,g8,g9,gA,gB,gC,gD,gE,gF,gG,gH,gI,gJ,gK,gL,gM,gN,gO,gP,gQ,gR,gS,gT,gU,gV,gW,gX,gY,gZ,hA,hB,hC,hD,hE,hF,hG,hH,hI,hJ,hK,hL,hM,hN,hO,hP,hQ,hR,hS,hT,hU] M K = (binV Try.prog .quo 3 3 (.int .i64 (IntKind.i64.wrap ((IntKind.i64.wrap ((IntKind.i64.wrap ((IntKind.i64.wrap (2 * x3)) + 1)) * (IntKind.i64.wrap ((IntKind.i64.wrap (2 * x2)) + 1)))) * 32))) (.int .i64 x1)).bind fun v_1 => (asI .i64 v_1).bind fun x_2 => (call 74 #[.int .i64 (IntKind.i64.wrap (64 - x_2))] M).bind fun r_3 => (asI .i64 r_3.1).bind fun x_4 => K #[g0,.int .i64 x1,.int .i64 x2,.int .i64 x3,g4,g5,g6,g7,.int .i64 x_4,g9,gA,gB,.int .i64 x3,.int .i64 (IntKind.i64.wrap (2 * x3)),.int .i64 (IntKind.i64.wrap ((IntKind.i64.wrap (2 * x3)) + 1)),.int .i64 x2,.int .i64 (IntKind.i64.wrap (2 * x2)),.int .i64 (IntKind.i64.wrap ((IntKind.i64.wrap (2 * x2)) + 1)),.int .i64 (IntKind.i64.wrap ((IntKind.i64.wrap ((IntKind.i64.wrap (2 * x3)) + 1)) * (IntKind.i64.wrap ((IntKind.i64.wrap (2 * x2)) + 1)))),.int .i64 (IntKind.i64.wrap ((IntKind.i64.wrap ((IntKind.i64.wrap ((IntKind.i64.wrap (2 * x3)) + 1)) * (IntKind.i64.wrap ((IntKind.i64.wrap (2 * x2)) + 1)))) * 32)),.int .i64 x1,.int .i64 x_2,.int .i64 (IntKind.i64.wrap (64 - x_2)),.int .i64 x_4,gO,gP,gQ,gR,gS,gT,gU,gV,gW,gX,gY,gZ,hA,hB,hC,hD,hE,hF,hG,hH,hI,hJ,hK,hL,hM,hN,hO,hP,hQ,hR,hS,hT,hU] r_3.2 := by kernel_rfl
theorem k67_9 : P67 [1,0,0,1,0,1] = .ret := by kernel_rfl
theorem e67 {M : Mem} : finish Try.prog Try.f67 #[g0,g1,g2,g3,g4,g5,g6,g7,g8,g9,gA,gB,gC,gD,gE,gF,gG,gH,gI,gJ,gK,gL,gM,gN,gO,gP,gQ,gR,gS,gT,gU,gV,gW,gX,gY,gZ,hA,hB,hC,hD,hE,hF,hG,hH,hI,hJ,hK,hL,hM,hN,hO,hP,hQ,hR,hS,hT,hU] M = some (g8, M) := by kernel_rfl
theorem k67_11 : P67 [1,0,0,1,1] = .seq (P67 [1,0,0,1,1,0]) (P67 [1,0,0,1,1,1]) := by kernel_rfl
theorem k67_12 : P67 [1,0,0,1,1,0] = .region 3 (O67 [1,0,0,1,1,0]) false := by kernel_rfl
theorem r67_3 {x0 x2 : Int} {M : Mem} {call : CallM} {K : Array Value → Mem → R} :
    opsK Try.prog (fun _ => call) (O67 [1,0,0,1,1,0]) (O67 [1,0,0,1,1,0]).toList 0 #[.int .i64 x0,g1,.int .i64 x2,g3,g4,g5,g6,g7,g8,g9,gA,gB,gC,gD,gE,gF,gG,gH,gI,gJ,gK,gL,gM,gN,gO,gP,gQ,gR,gS,gT,gU,gV,gW,gX,gY,gZ,hA,hB,hC,hD,hE,hF,hG,hH,hI,hJ,hK,hL,hM,hN,hO,hP,hQ,hR,hS,hT,hU] M K = withK (fun w24 w27 w28 w29 w30 M => K #[.int .i64 x0,g1,.int .i64 x2,g3,g4,g5,g6,g7,g8,g9,gA,gB,gC,gD,gE,gF,gG,gH,gI,gJ,gK,gL,gM,gN,w24,.int .i64 x0,.bool (x0 == 0),w27,w28,w29,w30,gV,gW,gX,gY,gZ,hA,hB,hC,hD,hE,hF,hG,hH,hI,hJ,hK,hL,hM,hN,hO,hP,hQ,hR,hS,hT,hU] M) fun k => cond (x0 == 0) (k (.bool (x2 == 0)) (.bool true) (.int .i64 x2) (.bool (x2 == 0)) (.bool (x2 == 0)) M) (k (.bool false) (.bool false) undef undef (.bool false) M) := by kernel_rfl
theorem c67_13 : P67 [1,0,0,1,1,1] = .cond (.tmp 24) (P67 [1,0,0,1,1,1,0]) (P67 [1,0,0,1,1,1,1]) := by kernel_rfl
theorem k67_14 : P67 [1,0,0,1,1,1,0] = .seq (P67 [1,0,0,1,1,1,0,0]) (P67 [1,0,0,1,1,1,0,1]) := by kernel_rfl
theorem k67_15 : P67 [1,0,0,1,1,1,0,0] = .region 4 (O67 [1,0,0,1,1,1,0,0]) false := by kernel_rfl
theorem r67_4 {M : Mem} {call : CallM} {K : Array Value → Mem → R} :
    opsK Try.prog (fun _ => call) (O67 [1,0,0,1,1,1,0,0]) (O67 [1,0,0,1,1,1,0,0]).toList 0 #[g0,g1,g2,g3,g4,g5,g6,g7,g8,g9,gA,gB,gC,gD,gE,gF,gG,gH,gI,gJ,gK,gL,gM,gN,gO,gP,gQ,gR,gS,gT,gU,gV,gW,gX,gY,gZ,hA,hB,hC,hD,hE,hF,hG,hH,hI,hJ,hK,hL,hM,hN,hO,hP,hQ,hR,hS,hT,hU] M K = (call 74 #[.int .i64 32] M).bind fun r_1 => (asI .i64 r_1.1).bind fun x_2 => K #[g0,g1,g2,g3,g4,g5,g6,g7,.int .i64 x_2,g9,gA,gB,gC,gD,gE,gF,gG,gH,gI,gJ,gK,gL,gM,gN,gO,gP,gQ,gR,gS,gT,gU,.int .i64 x_2,gW,gX,gY,gZ,hA,hB,hC,hD,hE,hF,hG,hH,hI,hJ,hK,hL,hM,hN,hO,hP,hQ,hR,hS,hT,hU] r_1.2 := by kernel_rfl
theorem k67_16 : P67 [1,0,0,1,1,1,0,1] = .ret := by kernel_rfl
theorem k67_17 : P67 [1,0,0,1,1,1,1] = .seq (P67 [1,0,0,1,1,1,1,0]) (P67 [1,0,0,1,1,1,1,1]) := by kernel_rfl
theorem k67_18 : P67 [1,0,0,1,1,1,1,0] = .region 5 (O67 [1,0,0,1,1,1,1,0]) false := by kernel_rfl
theorem r67_5 {x0 : Int} {M : Mem} {call : CallM} {K : Array Value → Mem → R} :
    opsK Try.prog (fun _ => call) (O67 [1,0,0,1,1,1,1,0]) (O67 [1,0,0,1,1,1,1,0]).toList 0 #[.int .i64 x0,g1,g2,g3,g4,g5,g6,g7,g8,g9,gA,gB,gC,gD,gE,gF,gG,gH,gI,gJ,gK,gL,gM,gN,gO,gP,gQ,gR,gS,gT,gU,gV,gW,gX,gY,gZ,hA,hB,hC,hD,hE,hF,hG,hH,hI,hJ,hK,hL,hM,hN,hO,hP,hQ,hR,hS,hT,hU] M K = K #[.int .i64 x0,g1,g2,g3,g4,g5,g6,g7,g8,g9,gA,gB,gC,gD,gE,gF,gG,gH,gI,gJ,gK,gL,gM,gN,gO,gP,gQ,gR,gS,gT,gU,gV,.bool (x0 == 0),.int .i64 x0,.bool (x0 == 0),gZ,hA,hB,hC,hD,hE,hF,hG,hH,hI,hJ,hK,hL,hM,hN,hO,hP,hQ,hR,hS,hT,hU] M := by kernel_rfl
theorem c67_19 : P67 [1,0,0,1,1,1,1,1] = .cond (.tmp 32) (P67 [1,0,0,1,1,1,1,1,0]) (P67 [1,0,0,1,1,1,1,1,1]) := by kernel_rfl
theorem k67_20 : P67 [1,0,0,1,1,1,1,1,0] = .seq (P67 [1,0,0,1,1,1,1,1,0,0]) (P67 [1,0,0,1,1,1,1,1,0,1]) := by kernel_rfl
theorem k67_21 : P67 [1,0,0,1,1,1,1,1,0,0] = .region 6 (O67 [1,0,0,1,1,1,1,1,0,0]) false := by kernel_rfl
theorem r67_6 {x1 x2 x3 : Int} {M : Mem} {call : CallM} {K : Array Value → Mem → R} :
    opsK Try.prog (fun _ => call) (O67 [1,0,0,1,1,1,1,1,0,0]) (O67 [1,0,0,1,1,1,1,1,0,0]).toList 0 #[g0,.int .i64 x1,.int .i64 x2,.int .i64 x3,g4,g5,g6,g7,g8,g9,gA,gB,gC,gD,gE,gF,gG,gH,gI,gJ,gK,gL,gM,gN,gO,gP,gQ,gR,gS,gT,gU,gV,gW,gX,gY,gZ,hA,hB,hC,hD,hE,hF,hG,hH,hI,hJ,hK,hL,hM,hN,hO,hP,hQ,hR,hS,hT,hU] M K = (binV Try.prog .quo 3 3 (.int .i64 (IntKind.i64.wrap ((IntKind.i64.wrap ((IntKind.i64.wrap ((IntKind.i64.wrap (2 * x3)) + 1)) * x2)) * 64))) (.int .i64 x1)).bind fun v_1 => (asI .i64 v_1).bind fun x_2 => (call 74 #[.int .i64 x_2] M).bind fun r_3 => (asI .i64 r_3.1).bind fun x_4 => K #[g0,.int .i64 x1,.int .i64 x2,.int .i64 x3,g4,g5,g6,g7,.int .i64 x_4,g9,gA,gB,gC,gD,gE,gF,gG,gH,gI,gJ,gK,gL,gM,gN,gO,gP,gQ,gR,gS,gT,gU,gV,gW,gX,gY,.int .i64 x3,.int .i64 (IntKind.i64.wrap (2 * x3)),.int .i64 (IntKind.i64.wrap ((IntKind.i64.wrap (2 * x3)) + 1)),.int .i64 x2,.int .i64 (IntKind.i64.wrap ((IntKind.i64.wrap ((IntKind.i64.wrap (2 * x3)) + 1)) * x2)),.int .i64 (IntKind.i64.wrap ((IntKind.i64.wrap ((IntKind.i64.wrap ((IntKind.i64.wrap (2 * x3)) + 1)) * x2)) * 64)),.int .i64 x1,.int .i64 x_2,.int .i64 x_4,hI,hJ,hK,hL,hM,hN,hO,hP,hQ,hR,hS,hT,hU] r_3.2 := by kernel_rfl
theorem k67_22 : P67 [1,0,0,1,1,1,1,1,0,1] = .ret := by kernel_rfl
theorem k67_23 : P67 [1,0,0,1,1,1,1,1,1] = .seq (P67 [1,0,0,1,1,1,1,1,1,0]) (P67 [1,0,0,1,1,1,1,1,1,1]) := by kernel_rfl
theorem k67_24 : P67 [1,0,0,1,1,1,1,1,1,0] = .region 7 (O67 [1,0,0,1,1,1,1,1,1,0]) false := by kernel_rfl
theorem r67_7 {x2 x3 : Int} {M : Mem} {call : CallM} {K : Array Value → Mem → R} :
    opsK Try.prog (fun _ => call) (O67 [1,0,0,1,1,1,1,1,1,0]) (O67 [1,0,0,1,1,1,1,1,1,0]).toList 0 #[g0,g1,.int .i64 x2,.int .i64 x3,g4,g5,g6,g7,g8,g9,gA,gB,gC,gD,gE,gF,gG,gH,gI,gJ,gK,gL,gM,gN,gO,gP,gQ,gR,gS,gT,gU,gV,gW,gX,gY,gZ,hA,hB,hC,hD,hE,hF,hG,hH,hI,hJ,hK,hL,hM,hN,hO,hP,hQ,hR,hS,hT,hU] M K = K #[g0,g1,.int .i64 x2,.int .i64 x3,g4,g5,g6,g7,g8,g9,gA,gB,gC,gD,gE,gF,gG,gH,gI,gJ,gK,gL,gM,gN,gO,gP,gQ,gR,gS,gT,gU,gV,gW,gX,gY,gZ,hA,hB,hC,hD,hE,hF,hG,hH,.bool (x2 != x3),.int .i64 x2,.int .i64 x3,.bool (x2 != x3),hM,hN,hO,hP,hQ,hR,hS,hT,hU] M := by kernel_rfl
theorem c67_25 : P67 [1,0,0,1,1,1,1,1,1,1] = .cond (.tmp 44) (P67 [1,0,0,1,1,1,1,1,1,1,0]) (P67 [1,0,0,1,1,1,1,1,1,1,1]) := by kernel_rfl
theorem k67_26 : P67 [1,0,0,1,1,1,1,1,1,1,0] = .seq (P67 [1,0,0,1,1,1,1,1,1,1,0,0]) (P67 [1,0,0,1,1,1,1,1,1,1,0,1]) := by kernel_rfl
theorem k67_27 : P67 [1,0,0,1,1,1,1,1,1,1,0,0] = .region 8 (O67 [1,0,0,1,1,1,1,1,1,1,0,0]) false := by kernel_rfl
theorem r67_8 {M : Mem} {call : CallM} {K : Array Value → Mem → R} :
    opsK Try.prog (fun _ => call) (O67 [1,0,0,1,1,1,1,1,1,1,0,0]) (O67 [1,0,0,1,1,1,1,1,1,1,0,0]).toList 0 #[g0,g1,g2,g3,g4,g5,g6,g7,g8,g9,gA,gB,gC,gD,gE,gF,gG,gH,gI,gJ,gK,gL,gM,gN,gO,gP,gQ,gR,gS,gT,gU,gV,gW,gX,gY,gZ,hA,hB,hC,hD,hE,hF,hG,hH,hI,hJ,hK,hL,hM,hN,hO,hP,hQ,hR,hS,hT,hU] M K = K #[g0,g1,g2,g3,g4,g5,g6,g7,.int .i64 0,g9,gA,gB,gC,gD,gE,gF,gG,gH,gI,gJ,gK,gL,gM,gN,gO,gP,gQ,gR,gS,gT,gU,gV,gW,gX,gY,gZ,hA,hB,hC,hD,hE,hF,hG,hH,hI,hJ,hK,hL,hM,hN,hO,hP,hQ,hR,hS,hT,hU] M := by kernel_rfl
theorem k67_28 : P67 [1,0,0,1,1,1,1,1,1,1,0,1] = .ret := by kernel_rfl
theorem k67_29 : P67 [1,0,0,1,1,1,1,1,1,1,1] = .seq (P67 [1,0,0,1,1,1,1,1,1,1,1,0]) (P67 [1,0,0,1,1,1,1,1,1,1,1,1]) := by kernel_rfl
theorem k67_30 : P67 [1,0,0,1,1,1,1,1,1,1,1,0] = .region 9 (O67 [1,0,0,1,1,1,1,1,1,1,1,0]) false := by kernel_rfl
theorem r67_9 {x1 : Int} {M : Mem} {call : CallM} {K : Array Value → Mem → R} :
    opsK Try.prog (fun _ => call) (O67 [1,0,0,1,1,1,1,1,1,1,1,0]) (O67 [1,0,0,1,1,1,1,1,1,1,1,0]).toList 0 #[g0,.int .i64 x1,g2,g3,g4,g5,g6,g7,g8,g9,gA,gB,gC,gD,gE,gF,gG,gH,gI,gJ,gK,gL,gM,gN,gO,gP,gQ,gR,gS,gT,gU,gV,gW,gX,gY,gZ,hA,hB,hC,hD,hE,hF,hG,hH,hI,hJ,hK,hL,hM,hN,hO,hP,hQ,hR,hS,hT,hU] M K = K #[g0,.int .i64 x1,g2,g3,g4,g5,g6,g7,g8,g9,gA,gB,gC,gD,gE,gF,gG,gH,gI,gJ,gK,gL,gM,gN,gO,gP,gQ,gR,gS,gT,gU,gV,gW,gX,gY,gZ,hA,hB,hC,hD,hE,hF,hG,hH,hI,hJ,hK,hL,.bool (x1 == 4),.int .i64 x1,.bool (x1 == 4),hP,hQ,hR,hS,hT,hU] M := by kernel_rfl
theorem c67_31 : P67 [1,0,0,1,1,1,1,1,1,1,1,1] = .cond (.tmp 48) (P67 [1,0,0,1,1,1,1,1,1,1,1,1,0]) (P67 [1,0,0,1,1,1,1,1,1,1,1,1,1]) := by kernel_rfl
theorem k67_32 : P67 [1,0,0,1,1,1,1,1,1,1,1,1,0] = .seq (P67 [1,0,0,1,1,1,1,1,1,1,1,1,0,0]) (P67 [1,0,0,1,1,1,1,1,1,1,1,1,0,1]) := by kernel_rfl
theorem k67_33 : P67 [1,0,0,1,1,1,1,1,1,1,1,1,0,0] = .region 10 (O67 [1,0,0,1,1,1,1,1,1,1,1,1,0,0]) false := by kernel_rfl
theorem r67_10 {M : Mem} {call : CallM} {K : Array Value → Mem → R} :
    opsK Try.prog (fun _ => call) (O67 [1,0,0,1,1,1,1,1,1,1,1,1,0,0]) (O67 [1,0,0,1,1,1,1,1,1,1,1,1,0,0]).toList 0 #[g0,g1,g2,g3,g4,g5,g6,g7,g8,g9,gA,gB,gC,gD,gE,gF,gG,gH,gI,gJ,gK,gL,gM,gN,gO,gP,gQ,gR,gS,gT,gU,gV,gW,gX,gY,gZ,hA,hB,hC,hD,hE,hF,hG,hH,hI,hJ,hK,hL,hM,hN,hO,hP,hQ,hR,hS,hT,hU] M K = K #[g0,g1,g2,g3,g4,g5,g6,g7,.int .i64 5793,g9,gA,gB,gC,gD,gE,gF,gG,gH,gI,gJ,gK,gL,gM,gN,gO,gP,gQ,gR,gS,gT,gU,gV,gW,gX,gY,gZ,hA,hB,hC,hD,hE,hF,hG,hH,hI,hJ,hK,hL,hM,hN,hO,hP,hQ,hR,hS,hT,hU] M := by kernel_rfl
theorem k67_34 : P67 [1,0,0,1,1,1,1,1,1,1,1,1,0,1] = .ret := by kernel_rfl
theorem k67_35 : P67 [1,0,0,1,1,1,1,1,1,1,1,1,1] = .seq (P67 [1,0,0,1,1,1,1,1,1,1,1,1,1,0]) (P67 [1,0,0,1,1,1,1,1,1,1,1,1,1,1]) := by kernel_rfl
theorem k67_36 : P67 [1,0,0,1,1,1,1,1,1,1,1,1,1,0] = .region 11 (O67 [1,0,0,1,1,1,1,1,1,1,1,1,1,0]) false := by kernel_rfl
theorem r67_11 {x1 : Int} {M : Mem} {call : CallM} {K : Array Value → Mem → R} :
    opsK Try.prog (fun _ => call) (O67 [1,0,0,1,1,1,1,1,1,1,1,1,1,0]) (O67 [1,0,0,1,1,1,1,1,1,1,1,1,1,0]).toList 0 #[g0,.int .i64 x1,g2,g3,g4,g5,g6,g7,g8,g9,gA,gB,gC,gD,gE,gF,gG,gH,gI,gJ,gK,gL,gM,gN,gO,gP,gQ,gR,gS,gT,gU,gV,gW,gX,gY,gZ,hA,hB,hC,hD,hE,hF,hG,hH,hI,hJ,hK,hL,hM,hN,hO,hP,hQ,hR,hS,hT,hU] M K = K #[g0,.int .i64 x1,g2,g3,g4,g5,g6,g7,g8,g9,gA,gB,gC,gD,gE,gF,gG,gH,gI,gJ,gK,gL,gM,gN,gO,gP,gQ,gR,gS,gT,gU,gV,gW,gX,gY,gZ,hA,hB,hC,hD,hE,hF,hG,hH,hI,hJ,hK,hL,hM,hN,hO,.bool (x1 == 8),.int .i64 x1,.bool (x1 == 8),hS,hT,hU] M := by kernel_rfl
theorem c67_37 : P67 [1,0,0,1,1,1,1,1,1,1,1,1,1,1] = .cond (.tmp 51) (P67 [1,0,0,1,1,1,1,1,1,1,1,1,1,1,0]) (P67 [1,0,0,1,1,1,1,1,1,1,1,1,1,1,1]) := by kernel_rfl
theorem k67_38 : P67 [1,0,0,1,1,1,1,1,1,1,1,1,1,1,0] = .seq (P67 [1,0,0,1,1,1,1,1,1,1,1,1,1,1,0,0]) (P67 [1,0,0,1,1,1,1,1,1,1,1,1,1,1,0,1]) := by kernel_rfl
theorem k67_39 : P67 [1,0,0,1,1,1,1,1,1,1,1,1,1,1,0,0] = .region 12 (O67 [1,0,0,1,1,1,1,1,1,1,1,1,1,1,0,0]) false := by kernel_rfl
theorem r67_12 {M : Mem} {call : CallM} {K : Array Value → Mem → R} :
    opsK Try.prog (fun _ => call) (O67 [1,0,0,1,1,1,1,1,1,1,1,1,1,1,0,0]) (O67 [1,0,0,1,1,1,1,1,1,1,1,1,1,1,0,0]).toList 0 #[g0,g1,g2,g3,g4,g5,g6,g7,g8,g9,gA,gB,gC,gD,gE,gF,gG,gH,gI,gJ,gK,gL,gM,gN,gO,gP,gQ,gR,gS,gT,gU,gV,gW,gX,gY,gZ,hA,hB,hC,hD,hE,hF,hG,hH,hI,hJ,hK,hL,hM,hN,hO,hP,hQ,hR,hS,hT,hU] M K = K #[g0,g1,g2,g3,g4,g5,g6,g7,.int .i64 8192,g9,gA,gB,gC,gD,gE,gF,gG,gH,gI,gJ,gK,gL,gM,gN,gO,gP,gQ,gR,gS,gT,gU,gV,gW,gX,gY,gZ,hA,hB,hC,hD,hE,hF,hG,hH,hI,hJ,hK,hL,hM,hN,hO,hP,hQ,hR,hS,hT,hU] M := by kernel_rfl
theorem k67_40 : P67 [1,0,0,1,1,1,1,1,1,1,1,1,1,1,0,1] = .ret := by kernel_rfl
theorem k67_41 : P67 [1,0,0,1,1,1,1,1,1,1,1,1,1,1,1] = .seq (P67 [1,0,0,1,1,1,1,1,1,1,1,1,1,1,1,0]) (P67 [1,0,0,1,1,1,1,1,1,1,1,1,1,1,1,1]) := by kernel_rfl
theorem k67_42 : P67 [1,0,0,1,1,1,1,1,1,1,1,1,1,1,1,0] = .region 13 (O67 [1,0,0,1,1,1,1,1,1,1,1,1,1,1,1,0]) false := by kernel_rfl
theorem r67_13 {x1 : Int} {M : Mem} {call : CallM} {K : Array Value → Mem → R} :
    opsK Try.prog (fun _ => call) (O67 [1,0,0,1,1,1,1,1,1,1,1,1,1,1,1,0]) (O67 [1,0,0,1,1,1,1,1,1,1,1,1,1,1,1,0]).toList 0 #[g0,.int .i64 x1,g2,g3,g4,g5,g6,g7,g8,g9,gA,gB,gC,gD,gE,gF,gG,gH,gI,gJ,gK,gL,gM,gN,gO,gP,gQ,gR,gS,gT,gU,gV,gW,gX,gY,gZ,hA,hB,hC,hD,hE,hF,hG,hH,hI,hJ,hK,hL,hM,hN,hO,hP,hQ,hR,hS,hT,hU] M K = K #[g0,.int .i64 x1,g2,g3,g4,g5,g6,g7,g8,g9,gA,gB,gC,gD,gE,gF,gG,gH,gI,gJ,gK,gL,gM,gN,gO,gP,gQ,gR,gS,gT,gU,gV,gW,gX,gY,gZ,hA,hB,hC,hD,hE,hF,hG,hH,hI,hJ,hK,hL,hM,hN,hO,hP,hQ,hR,.bool (x1 == 16),.int .i64 x1,.bool (x1 == 16)] M := by kernel_rfl
theorem c67_43 : P67 [1,0,0,1,1,1,1,1,1,1,1,1,1,1,1,1] = .cond (.tmp 54) (P67 [1,0,0,1,1,1,1,1,1,1,1,1,1,1,1,1,0]) (P67 [1,0,0,1,1,1,1,1,1,1,1,1,1,1,1,1,1]) := by kernel_rfl
theorem k67_44 : P67 [1,0,0,1,1,1,1,1,1,1,1,1,1,1,1,1,0] = .seq (P67 [1,0,0,1,1,1,1,1,1,1,1,1,1,1,1,1,0,0]) (P67 [1,0,0,1,1,1,1,1,1,1,1,1,1,1,1,1,0,1]) := by kernel_rfl
theorem k67_45 : P67 [1,0,0,1,1,1,1,1,1,1,1,1,1,1,1,1,0,0] = .region 14 (O67 [1,0,0,1,1,1,1,1,1,1,1,1,1,1,1,1,0,0]) false := by kernel_rfl
theorem r67_14 {M : Mem} {call : CallM} {K : Array Value → Mem → R} :
    opsK Try.prog (fun _ => call) (O67 [1,0,0,1,1,1,1,1,1,1,1,1,1,1,1,1,0,0]) (O67 [1,0,0,1,1,1,1,1,1,1,1,1,1,1,1,1,0,0]).toList 0 #[g0,g1,g2,g3,g4,g5,g6,g7,g8,g9,gA,gB,gC,gD,gE,gF,gG,gH,gI,gJ,gK,gL,gM,gN,gO,gP,gQ,gR,gS,gT,gU,gV,gW,gX,gY,gZ,hA,hB,hC,hD,hE,hF,hG,hH,hI,hJ,hK,hL,hM,hN,hO,hP,hQ,hR,hS,hT,hU] M K = K #[g0,g1,g2,g3,g4,g5,g6,g7,.int .i64 11586,g9,gA,gB,gC,gD,gE,gF,gG,gH,gI,gJ,gK,gL,gM,gN,gO,gP,gQ,gR,gS,gT,gU,gV,gW,gX,gY,gZ,hA,hB,hC,hD,hE,hF,hG,hH,hI,hJ,hK,hL,hM,hN,hO,hP,hQ,hR,hS,hT,hU] M := by kernel_rfl
theorem k67_46 : P67 [1,0,0,1,1,1,1,1,1,1,1,1,1,1,1,1,0,1] = .ret := by kernel_rfl
theorem k67_47 : P67 [1,0,0,1,1,1,1,1,1,1,1,1,1,1,1,1,1] = .skip := by kernel_rfl
theorem k67_48 : P67 [1,1] = .seq (P67 [1,1,0]) (P67 [1,1,1]) := by kernel_rfl
theorem k67_49 : P67 [1,1,0] = .region 15 (O67 [1,1,0]) false := by kernel_rfl
theorem r67_15 {M : Mem} {call : CallM} {K : Array Value → Mem → R} :
    opsK Try.prog (fun _ => call) (O67 [1,1,0]) (O67 [1,1,0]).toList 0 #[g0,g1,g2,g3,g4,g5,g6,g7,g8,g9,gA,gB,gC,gD,gE,gF,gG,gH,gI,gJ,gK,gL,gM,gN,gO,gP,gQ,gR,gS,gT,gU,gV,gW,gX,gY,gZ,hA,hB,hC,hD,hE,hF,hG,hH,hI,hJ,hK,hL,hM,hN,hO,hP,hQ,hR,hS,hT,hU] M K = K #[g0,g1,g2,g3,g4,g5,g6,g7,.int .i64 16384,g9,gA,gB,gC,gD,gE,gF,gG,gH,gI,gJ,gK,gL,gM,gN,gO,gP,gQ,gR,gS,gT,gU,gV,gW,gX,gY,gZ,hA,hB,hC,hD,hE,hF,hG,hH,hI,hJ,hK,hL,hM,hN,hO,hP,hQ,hR,hS,hT,hU] M := by kernel_rfl
theorem k67_50 : P67 [1,1,1] = .ret := by kernel_rfl
noncomputable def S67_1 : List Item := [.code (P67 [1,0,0,1,1,1]), .inBlock 0, .code (P67 [1,1])]
def A67_1 (x0 x1 x2 x3 : Int) (x24 : Bool) (M : Mem) (Q : Value → Mem → Prop) : Prop := ∀ (g4 g5 g6 g7 g8 g9 gA gB gC gD gE gF gG gH gI gJ gK gL gM gN gP gQ gR gS gT gU gV gW gX gY gZ hA hB hC hD hE hF hG hH hI hJ hK hL hM hN hO hP hQ hR hS hT hU : Value), Rn Try.prog Try.f67 S67_1 #[.int .i64 x0, .int .i64 x1, .int .i64 x2, .int .i64 x3, g4, g5, g6, g7, g8, g9, gA, gB, gC, gD, gE, gF, gG, gH, gI, gJ, gK, gL, gM, gN, .bool x24, gP, gQ, gR, gS, gT, gU, gV, gW, gX, gY, gZ, hA, hB, hC, hD, hE, hF, hG, hH, hI, hJ, hK, hL, hM, hN, hO, hP, hQ, hR, hS, hT, hU] M Q
theorem w67_0 {x0 x1 x2 x3 : Int} {M : Mem} {Q : Value → Mem → Prop} (H :
    ((x0 = 1 →
     ∃ v1', binV Try.prog .quo 3 3 (.int .i64 (IntKind.i64.wrap ((IntKind.i64.wrap ((IntKind.i64.wrap ((IntKind.i64.wrap (2 * x3)) + 1)) * (IntKind.i64.wrap ((IntKind.i64.wrap (2 * x2)) + 1)))) * 32))) (.int .i64 x1) = some v1' ∧
     ∃ x2', asI .i64 v1' = some x2' ∧
     Cn Try.prog 74 #[.int .i64 (IntKind.i64.wrap (64 - x2'))] M fun v3' N3' =>
      ∃ x4', asI .i64 v3' = some x4' ∧
      Q (.int .i64 (x4')) N3') ∧
     (x0 ≠ 1 →
     ((x0 = 0 →
      A67_1 x0 x1 x2 x3 (x2 == 0) M Q) ∧
      (x0 ≠ 0 →
      A67_1 x0 x1 x2 x3 false M Q))))) :
    Cn Try.prog 67 #[.int .i64 x0, .int .i64 x1, .int .i64 x2, .int .i64 x3] M Q := by
  refine Cn.of b67 d67 t67 ?_
  refine Rn.seq k67_0 (Rn.region k67_1 (fun call K => r67_0) (Rch.leaf (Rn.seq k67_2 (Rn.block k67_3 (Rn.seq k67_4 (Rn.region k67_5 (fun call K => r67_1) (Rch.leaf ?_)))))))
  refine Rn.cnd (v := x0 == 1) ⟨c67_6, rfl, by kernel_rfl⟩ (fun h => ?_) (fun h => ?_)
  · replace H := H.1 (eq_of_beq h)
    refine Rn.seq k67_7 (Rn.region k67_8 (fun call K => r67_2) (Rch.ex H fun v1' H => Rch.ex H fun x2' H => Rch.call H fun v3' N3' H => Rch.ex H fun x4' H => Rch.leaf ?_))
    exact Rn.ret k67_9 e67 H
  · replace H := H.2 (ne_of_beq_false h)
    refine Rn.seq k67_11 (Rn.region k67_12 (fun call K => r67_3) ?_)
    refine Rch.cB (fun h => ?_) (fun h => ?_)
    · replace H := H.1 (eq_of_beq h)
      refine Rch.leaf ?_
      exact H _ _ _ _ _ _ _ _ _ _ _ _ _ _ _ _ _ _ _ _ _ _ _ _ _ _ _ _ _ _ _ _ _ _ _ _ _ _ _ _ _ _ _ _ _ _ _ _ _ _ _ _
    · replace H := H.2 (ne_of_beq_false h)
      refine Rch.leaf ?_
      exact H _ _ _ _ _ _ _ _ _ _ _ _ _ _ _ _ _ _ _ _ _ _ _ _ _ _ _ _ _ _ _ _ _ _ _ _ _ _ _ _ _ _ _ _ _ _ _ _ _ _ _ _

theorem w67_1 {x0 x1 x2 x3 : Int} {x24 : Bool} {M : Mem} {Q : Value → Mem → Prop} (H :
    ((x24 = true →
     Cn Try.prog 74 #[.int .i64 32] M fun v5' N5' =>
      ∃ x6', asI .i64 v5' = some x6' ∧
      Q (.int .i64 (x6')) N5') ∧
     (x24 = false →
     ((x0 = 0 →
      ∃ v7', binV Try.prog .quo 3 3 (.int .i64 (IntKind.i64.wrap ((IntKind.i64.wrap ((IntKind.i64.wrap ((IntKind.i64.wrap (2 * x3)) + 1)) * x2)) * 64))) (.int .i64 x1) = some v7' ∧
      ∃ x8', asI .i64 v7' = some x8' ∧
      Cn Try.prog 74 #[.int .i64 x8'] M fun v9' N9' =>
       ∃ x10', asI .i64 v9' = some x10' ∧
       Q (.int .i64 (x10')) N9') ∧
      (x0 ≠ 0 →
      ((x2 ≠ x3 →
       Q (.int .i64 0) M) ∧
       (x2 = x3 →
       ((x1 = 4 →
        Q (.int .i64 5793) M) ∧
        (x1 ≠ 4 →
        ((x1 = 8 →
         Q (.int .i64 8192) M) ∧
         (x1 ≠ 8 →
         ((x1 = 16 →
          Q (.int .i64 11586) M) ∧
          (x1 ≠ 16 →
          Q (.int .i64 16384) M))))))))))))) :
    A67_1 x0 x1 x2 x3 x24 M Q := by
  intro g4 g5 g6 g7 g8 g9 gA gB gC gD gE gF gG gH gI gJ gK gL gM gN gP gQ gR gS gT gU gV gW gX gY gZ hA hB hC hD hE hF hG hH hI hJ hK hL hM hN hO hP hQ hR hS hT hU
  refine Rn.cnd (v := x24) ⟨c67_13, rfl, by kernel_rfl⟩ (fun h => ?_) (fun h => ?_)
  · replace H := H.1 (h)
    refine Rn.seq k67_14 (Rn.region k67_15 (fun call K => r67_4) (Rch.call H fun v5' N5' H => Rch.ex H fun x6' H => Rch.leaf ?_))
    exact Rn.ret k67_16 e67 H
  · replace H := H.2 (h)
    refine Rn.seq k67_17 (Rn.region k67_18 (fun call K => r67_5) (Rch.leaf ?_))
    refine Rn.cnd (v := x0 == 0) ⟨c67_19, rfl, by kernel_rfl⟩ (fun h => ?_) (fun h => ?_)
    · replace H := H.1 (eq_of_beq h)
      refine Rn.seq k67_20 (Rn.region k67_21 (fun call K => r67_6) (Rch.ex H fun v7' H => Rch.ex H fun x8' H => Rch.call H fun v9' N9' H => Rch.ex H fun x10' H => Rch.leaf ?_))
      exact Rn.ret k67_22 e67 H
    · replace H := H.2 (ne_of_beq_false h)
      refine Rn.seq k67_23 (Rn.region k67_24 (fun call K => r67_7) (Rch.leaf ?_))
      refine Rn.cnd (v := x2 != x3) ⟨c67_25, rfl, by kernel_rfl⟩ (fun h => ?_) (fun h => ?_)
      · replace H := H.1 (ne_of_bneT h)
        refine Rn.seq k67_26 (Rn.region k67_27 (fun call K => r67_8) (Rch.leaf ?_))
        exact Rn.ret k67_28 e67 H
      · replace H := H.2 (eq_of_bneF h)
        refine Rn.seq k67_29 (Rn.region k67_30 (fun call K => r67_9) (Rch.leaf ?_))
        refine Rn.cnd (v := x1 == 4) ⟨c67_31, rfl, by kernel_rfl⟩ (fun h => ?_) (fun h => ?_)
        · replace H := H.1 (eq_of_beq h)
          refine Rn.seq k67_32 (Rn.region k67_33 (fun call K => r67_10) (Rch.leaf ?_))
          exact Rn.ret k67_34 e67 H
        · replace H := H.2 (ne_of_beq_false h)
          refine Rn.seq k67_35 (Rn.region k67_36 (fun call K => r67_11) (Rch.leaf ?_))
          refine Rn.cnd (v := x1 == 8) ⟨c67_37, rfl, by kernel_rfl⟩ (fun h => ?_) (fun h => ?_)
          · replace H := H.1 (eq_of_beq h)
            refine Rn.seq k67_38 (Rn.region k67_39 (fun call K => r67_12) (Rch.leaf ?_))
            exact Rn.ret k67_40 e67 H
          · replace H := H.2 (ne_of_beq_false h)
            refine Rn.seq k67_41 (Rn.region k67_42 (fun call K => r67_13) (Rch.leaf ?_))
            refine Rn.cnd (v := x1 == 16) ⟨c67_43, rfl, by kernel_rfl⟩ (fun h => ?_) (fun h => ?_)
            · replace H := H.1 (eq_of_beq h)
              refine Rn.seq k67_44 (Rn.region k67_45 (fun call K => r67_14) (Rch.leaf ?_))
              exact Rn.ret k67_46 e67 H
            · replace H := H.2 (ne_of_beq_false h)
              refine Rn.skip k67_47 (Rn.blk (Rn.seq k67_48 (Rn.region k67_49 (fun call K => r67_15) (Rch.leaf ?_))))
              exact Rn.ret k67_50 e67 H


end Go.Zt

