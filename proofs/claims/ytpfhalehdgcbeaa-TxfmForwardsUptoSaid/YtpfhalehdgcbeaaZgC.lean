/- The functions' walks: for each function and each loop a rule of what it comes to. Printed by zw.py. -/
import Derived.Test.YtpfhalehdgcbeaaProg
import Derived.Test.YtpfhalehdgcbeaaZgA
set_option linter.unusedVariables false
set_option maxRecDepth 100000
namespace Go.Zt
open Go Go.Sim Go.Proofs

variable {g0 g1 g2 g3 g4 g5 g6 g7 g8 g9 gA gB gC gD gE gF gG gH gI gJ gK gL gM gN gO gP gQ gR gS gT gU gV gW gX gY gZ hA hB hC hD hE hF hG hH hI hJ hK hL hM hN hO hP hQ hR hS hT hU hV hW hX hY hZ h0 h1 h2 h3 h4 h5 h6 h7 h8 h9 jA jB jC jD jE : Value}
/-! ### zoetrope/basis.Forward: function 45 -/
noncomputable abbrev P45 (p : List Nat) : Code := subC (codeOf Try.f45) p
noncomputable abbrev O45 (p : List Nat) : Array Oper := opsOf (subC (codeOf Try.f45) p)
theorem b45 : Try.prog.funcs[45]? = some Try.f45 ∧ (Orc.tab Try.prog).lookup 45 = none := ⟨by kernel_rfl, by kernel_rfl⟩
theorem d45 : Try.f45.body = some (P45 []) := by kernel_rfl
theorem t45 {x0 : Int} {Ax1 : Option Addr} {lx1 cx1 : Nat} : #[.int .i64 x0,.slice Ax1 lx1 cx1] ++ Array.replicate (Try.f45.ntmps - (#[.int .i64 x0,.slice Ax1 lx1 cx1] : Array Value).size) undef = #[.int .i64 x0,.slice Ax1 lx1 cx1,undef,undef,undef,undef,undef,undef,undef,undef,undef,undef,undef,undef,undef,undef,undef,undef,undef,undef,undef,undef,undef,undef,undef,undef,undef,undef,undef,undef,undef,undef,undef,undef,undef,undef,undef,undef,undef,undef,undef,undef,undef,undef,undef,undef,undef,undef,undef,undef,undef,undef,undef,undef,undef,undef,undef,undef,undef,undef,undef,undef,undef,undef,undef,undef,undef,undef,undef,undef,undef,undef,undef,undef,undef] := by kernel_rfl
theorem k45_0 : P45 [] = .seq (P45 [0]) (P45 [1]) := by kernel_rfl
theorem k45_1 : P45 [0] = .region 0 (O45 [0]) false := by kernel_rfl
theorem r45_0 {M : Mem} {call : CallM} {K : Array Value → Mem → R} :
    opsK Try.prog (fun _ => call) (O45 [0]) (O45 [0]).toList 0 #[g0,g1,g2,g3,g4,g5,g6,g7,g8,g9,gA,gB,gC,gD,gE,gF,gG,gH,gI,gJ,gK,gL,gM,gN,gO,gP,gQ,gR,gS,gT,gU,gV,gW,gX,gY,gZ,hA,hB,hC,hD,hE,hF,hG,hH,hI,hJ,hK,hL,hM,hN,hO,hP,hQ,hR,hS,hT,hU,hV,hW,hX,hY,hZ,h0,h1,h2,h3,h4,h5,h6,h7,h8,h9,jA,jB,jC] M K = K #[g0,g1,g2,g3,.slice none 0 0,.int .i64 0,g6,g7,g8,g9,gA,gB,gC,gD,gE,gF,gG,gH,gI,gJ,gK,gL,gM,gN,gO,gP,gQ,gR,gS,gT,gU,gV,gW,gX,gY,gZ,hA,hB,hC,hD,hE,hF,hG,hH,hI,hJ,hK,hL,hM,hN,hO,hP,hQ,hR,hS,hT,hU,hV,hW,hX,hY,hZ,h0,h1,h2,h3,h4,h5,h6,h7,h8,h9,jA,jB,jC] M := by kernel_rfl
theorem k45_2 : P45 [1] = .seq (P45 [1,0]) (P45 [1,1]) := by kernel_rfl
theorem k45_3 : P45 [1,0] = .region 1 (O45 [1,0]) false := by kernel_rfl
theorem r45_1 {x0 : Int} {Ax1 : Option Addr} {lx1 cx1 : Nat} {M : Mem} {call : CallM} {K : Array Value → Mem → R} :
    opsK Try.prog (fun _ => call) (O45 [1,0]) (O45 [1,0]).toList 0 #[.int .i64 x0,.slice Ax1 lx1 cx1,g2,g3,g4,g5,g6,g7,g8,g9,gA,gB,gC,gD,gE,gF,gG,gH,gI,gJ,gK,gL,gM,gN,gO,gP,gQ,gR,gS,gT,gU,gV,gW,gX,gY,gZ,hA,hB,hC,hD,hE,hF,hG,hH,hI,hJ,hK,hL,hM,hN,hO,hP,hQ,hR,hS,hT,hU,hV,hW,hX,hY,hZ,h0,h1,h2,h3,h4,h5,h6,h7,h8,h9,jA,jB,jC] M K = (call 52 #[.int .i64 x0, .slice Ax1 lx1 cx1] M).bind fun r_1 => (asU 2 r_1.1).bind fun cs_2 => (asA 2 (cs_2.getD 0 undef)).bind fun cs_3 => (asI .i64 (cs_3.getD 0 undef)).bind fun x_4 => (asB (cs_2.getD 1 undef)).bind fun b_5 => ((r_1.2.new (.cells #[.int .i64 0, .nilFunc] 54)).put (2 * r_1.2.nb.size) 0 (.int .i64 x_4)).bind fun M_6 => (M_6.put (2 * r_1.2.nb.size) 1 (cs_3.getD 1 undef)).bind fun M_7 => K #[.int .i64 x0,.slice Ax1 lx1 cx1,g2,g3,g4,g5,.pointer (some ⟨2 * r_1.2.nb.size, 0, none⟩),.bool b_5,g8,g9,gA,gB,.tuple #[.agg #[.int .i64 x_4, cs_3.getD 1 undef], .bool b_5],.int .i64 x0,.slice Ax1 lx1 cx1,.tuple #[.agg #[.int .i64 x_4, cs_3.getD 1 undef], .bool b_5],.agg #[.int .i64 x_4, cs_3.getD 1 undef],.bool b_5,gI,gJ,gK,gL,gM,gN,gO,gP,gQ,gR,gS,gT,gU,gV,gW,gX,gY,gZ,hA,hB,hC,hD,hE,hF,hG,hH,hI,hJ,hK,hL,hM,hN,hO,hP,hQ,hR,hS,hT,hU,hV,hW,hX,hY,hZ,h0,h1,h2,h3,h4,h5,h6,h7,h8,h9,jA,jB,jC] M_7 := by kernel_rfl
theorem k45_4 : P45 [1,1] = .seq (P45 [1,1,0]) (P45 [1,1,1]) := by kernel_rfl
theorem k45_5 : P45 [1,1,0] = .seq (P45 [1,1,0,0]) (P45 [1,1,0,1]) := by kernel_rfl
theorem k45_6 : P45 [1,1,0,0] = .region 2 (O45 [1,1,0,0]) false := by kernel_rfl
theorem r45_2 {x7 : Bool} {M : Mem} {call : CallM} {K : Array Value → Mem → R} :
    opsK Try.prog (fun _ => call) (O45 [1,1,0,0]) (O45 [1,1,0,0]).toList 0 #[g0,g1,g2,g3,g4,g5,g6,.bool x7,g8,g9,gA,gB,gC,gD,gE,gF,gG,gH,gI,gJ,gK,gL,gM,gN,gO,gP,gQ,gR,gS,gT,gU,gV,gW,gX,gY,gZ,hA,hB,hC,hD,hE,hF,hG,hH,hI,hJ,hK,hL,hM,hN,hO,hP,hQ,hR,hS,hT,hU,hV,hW,hX,hY,hZ,h0,h1,h2,h3,h4,h5,h6,h7,h8,h9,jA,jB,jC] M K = K #[g0,g1,g2,g3,g4,g5,g6,.bool x7,g8,g9,gA,gB,gC,gD,gE,gF,gG,gH,.bool x7,.bool (!x7),gK,gL,gM,gN,gO,gP,gQ,gR,gS,gT,gU,gV,gW,gX,gY,gZ,hA,hB,hC,hD,hE,hF,hG,hH,hI,hJ,hK,hL,hM,hN,hO,hP,hQ,hR,hS,hT,hU,hV,hW,hX,hY,hZ,h0,h1,h2,h3,h4,h5,h6,h7,h8,h9,jA,jB,jC] M := by kernel_rfl
theorem c45_7 : P45 [1,1,0,1] = .cond (.tmp 19) (P45 [1,1,0,1,0]) (P45 [1,1,0,1,1]) := by kernel_rfl
theorem k45_8 : P45 [1,1,0,1,0] = .seq (P45 [1,1,0,1,0,0]) (P45 [1,1,0,1,0,1]) := by kernel_rfl
theorem k45_9 : P45 [1,1,0,1,0,0] = .region 3 (O45 [1,1,0,1,0,0]) false := by kernel_rfl
theorem r45_3 {M : Mem} {call : CallM} {K : Array Value → Mem → R} :
    opsK Try.prog (fun _ => call) (O45 [1,1,0,1,0,0]) (O45 [1,1,0,1,0,0]).toList 0 #[g0,g1,g2,g3,g4,g5,g6,g7,g8,g9,gA,gB,gC,gD,gE,gF,gG,gH,gI,gJ,gK,gL,gM,gN,gO,gP,gQ,gR,gS,gT,gU,gV,gW,gX,gY,gZ,hA,hB,hC,hD,hE,hF,hG,hH,hI,hJ,hK,hL,hM,hN,hO,hP,hQ,hR,hS,hT,hU,hV,hW,hX,hY,hZ,h0,h1,h2,h3,h4,h5,h6,h7,h8,h9,jA,jB,jC] M K = K #[g0,g1,g2,g3,.slice none 0 0,.int .i64 2,g6,g7,g8,g9,gA,gB,gC,gD,gE,gF,gG,gH,gI,gJ,gK,gL,gM,gN,gO,gP,gQ,gR,gS,gT,gU,gV,gW,gX,gY,gZ,hA,hB,hC,hD,hE,hF,hG,hH,hI,hJ,hK,hL,hM,hN,hO,hP,hQ,hR,hS,hT,hU,hV,hW,hX,hY,hZ,h0,h1,h2,h3,h4,h5,h6,h7,h8,h9,jA,jB,jC] M := by kernel_rfl
theorem k45_10 : P45 [1,1,0,1,0,1] = .ret := by kernel_rfl
theorem e45 {M : Mem} : finish Try.prog Try.f45 #[g0,g1,g2,g3,g4,g5,g6,g7,g8,g9,gA,gB,gC,gD,gE,gF,gG,gH,gI,gJ,gK,gL,gM,gN,gO,gP,gQ,gR,gS,gT,gU,gV,gW,gX,gY,gZ,hA,hB,hC,hD,hE,hF,hG,hH,hI,hJ,hK,hL,hM,hN,hO,hP,hQ,hR,hS,hT,hU,hV,hW,hX,hY,hZ,h0,h1,h2,h3,h4,h5,h6,h7,h8,h9,jA,jB,jC] M = some (.tuple #[g4, g5], M) := by kernel_rfl
theorem k45_12 : P45 [1,1,0,1,1] = .skip := by kernel_rfl
theorem k45_13 : P45 [1,1,1] = .seq (P45 [1,1,1,0]) (P45 [1,1,1,1]) := by kernel_rfl
theorem k45_14 : P45 [1,1,1,0] = .seq (P45 [1,1,1,0,0]) (P45 [1,1,1,0,1]) := by kernel_rfl
theorem k45_15 : P45 [1,1,1,0,0] = .region 4 (O45 [1,1,1,0,0]) false := by kernel_rfl
theorem r45_4 {x6 : Option Addr} {M : Mem} {call : CallM} {K : Array Value → Mem → R} :
    opsK Try.prog (fun _ => call) (O45 [1,1,1,0,0]) (O45 [1,1,1,0,0]).toList 0 #[g0,g1,g2,g3,g4,g5,.pointer x6,g7,g8,g9,gA,gB,gC,gD,gE,gF,gG,gH,gI,gJ,gK,gL,gM,gN,gO,gP,gQ,gR,gS,gT,gU,gV,gW,gX,gY,gZ,hA,hB,hC,hD,hE,hF,hG,hH,hI,hJ,hK,hL,hM,hN,hO,hP,hQ,hR,hS,hT,hU,hV,hW,hX,hY,hZ,h0,h1,h2,h3,h4,h5,h6,h7,h8,h9,jA,jB,jC] M K = (x6).bind fun a_1 => (M.cell a_1.block (a_1.off + 1)).bind fun v_2 => (fnilV Try.prog 33 v_2).bind fun b_3 => K #[g0,g1,g2,g3,g4,g5,.pointer x6,g7,g8,g9,gA,gB,gC,gD,gE,gF,gG,gH,gI,gJ,.pointer (some ⟨a_1.block, a_1.off + 1, none⟩),v_2,.bool b_3,gN,gO,gP,gQ,gR,gS,gT,gU,gV,gW,gX,gY,gZ,hA,hB,hC,hD,hE,hF,hG,hH,hI,hJ,hK,hL,hM,hN,hO,hP,hQ,hR,hS,hT,hU,hV,hW,hX,hY,hZ,h0,h1,h2,h3,h4,h5,h6,h7,h8,h9,jA,jB,jC] M := by kernel_rfl
theorem c45_16 : P45 [1,1,1,0,1] = .cond (.tmp 22) (P45 [1,1,1,0,1,0]) (P45 [1,1,1,0,1,1]) := by kernel_rfl
theorem k45_17 : P45 [1,1,1,0,1,0] = .seq (P45 [1,1,1,0,1,0,0]) (P45 [1,1,1,0,1,0,1]) := by kernel_rfl
theorem k45_18 : P45 [1,1,1,0,1,0,0] = .region 5 (O45 [1,1,1,0,1,0,0]) true ∧ drawOk (O45 [1,1,1,0,1,0,0]) = true := ⟨by kernel_rfl, by kernel_rfl⟩
theorem r45_5 {Ax1 : Option Addr} {lx1 cx1 : Nat} {M : Mem} {call : CallM} {K : Array Value → Mem → R} :
    opsI Try.prog (callAt call (O45 [1,1,1,0,1,0,0])) (O45 [1,1,1,0,1,0,0]) (ordOf (O45 [1,1,1,0,1,0,0])) [] #[g0,.slice Ax1 lx1 cx1,g2,g3,g4,g5,g6,g7,g8,g9,gA,gB,gC,gD,gE,gF,gG,gH,gI,gJ,gK,gL,gM,gN,gO,gP,gQ,gR,gS,gT,gU,gV,gW,gX,gY,gZ,hA,hB,hC,hD,hE,hF,hG,hH,hI,hJ,hK,hL,hM,hN,hO,hP,hQ,hR,hS,hT,hU,hV,hW,hX,hY,hZ,h0,h1,h2,h3,h4,h5,h6,h7,h8,h9,jA,jB,jC] M K = (idxA Ax1 lx1 1 0).bind fun a_1 => (M.intAt .i64 a_1.block a_1.off).bind fun x_2 => (idxA Ax1 lx1 1 1).bind fun a_3 => (M.intAt .i64 a_3.block a_3.off).bind fun x_4 => (idxA Ax1 lx1 1 2).bind fun a_5 => (M.intAt .i64 a_5.block a_5.off).bind fun x_6 => (idxA Ax1 lx1 1 3).bind fun a_7 => (M.intAt .i64 a_7.block a_7.off).bind fun x_8 => (call 57 #[.int .i64 x_2, .int .i64 x_4, .int .i64 x_6, .int .i64 x_8] M).bind fun r_9 => (asS r_9.1).bind fun s_10 => K #[g0,.slice Ax1 lx1 cx1,g2,g3,.slice s_10.1 (s_10.2.1) (s_10.2.2),.int .i64 0,g6,g7,g8,g9,gA,gB,gC,gD,gE,gF,gG,gH,gI,gJ,gK,gL,gM,.slice Ax1 lx1 cx1,.pointer (some a_1),.int .i64 x_2,.slice Ax1 lx1 cx1,.pointer (some a_3),.int .i64 x_4,.slice Ax1 lx1 cx1,.pointer (some a_5),.int .i64 x_6,.slice Ax1 lx1 cx1,.pointer (some a_7),.int .i64 x_8,.slice s_10.1 (s_10.2.1) (s_10.2.2),hA,hB,hC,hD,hE,hF,hG,hH,hI,hJ,hK,hL,hM,hN,hO,hP,hQ,hR,hS,hT,hU,hV,hW,hX,hY,hZ,h0,h1,h2,h3,h4,h5,h6,h7,h8,h9,jA,jB,jC] r_9.2 := by kernel_rfl
theorem k45_19 : P45 [1,1,1,0,1,0,1] = .ret := by kernel_rfl
theorem k45_20 : P45 [1,1,1,0,1,1] = .skip := by kernel_rfl
theorem k45_21 : P45 [1,1,1,1] = .seq (P45 [1,1,1,1,0]) (P45 [1,1,1,1,1]) := by kernel_rfl
theorem k45_22 : P45 [1,1,1,1,0] = .region 6 (O45 [1,1,1,1,0]) false := by kernel_rfl
theorem r45_6 {Ax1 : Option Addr} {lx1 cx1 : Nat} {M : Mem} {call : CallM} {K : Array Value → Mem → R} :
    opsK Try.prog (fun _ => call) (O45 [1,1,1,1,0]) (O45 [1,1,1,1,0]).toList 0 #[g0,.slice Ax1 lx1 cx1,g2,g3,g4,g5,g6,g7,g8,g9,gA,gB,gC,gD,gE,gF,gG,gH,gI,gJ,gK,gL,gM,gN,gO,gP,gQ,gR,gS,gT,gU,gV,gW,gX,gY,gZ,hA,hB,hC,hD,hE,hF,hG,hH,hI,hJ,hK,hL,hM,hN,hO,hP,hQ,hR,hS,hT,hU,hV,hW,hX,hY,hZ,h0,h1,h2,h3,h4,h5,h6,h7,h8,h9,jA,jB,jC] M K = (makeP Try.prog 22 (.int .i64 ((lx1 : Int))) (.int .i64 ((lx1 : Int))) M).bind fun r_1 => (asS r_1.1).bind fun s_2 => K #[g0,.slice Ax1 lx1 cx1,g2,g3,g4,g5,g6,g7,.slice s_2.1 (s_2.2.1) (s_2.2.2),g9,gA,gB,gC,gD,gE,gF,gG,gH,gI,gJ,gK,gL,gM,gN,gO,gP,gQ,gR,gS,gT,gU,gV,gW,gX,gY,gZ,.slice Ax1 lx1 cx1,.int .i64 ((lx1 : Int)),.slice s_2.1 (s_2.2.1) (s_2.2.2),hD,hE,hF,hG,hH,hI,hJ,hK,hL,hM,hN,hO,hP,hQ,hR,hS,hT,hU,hV,hW,hX,hY,hZ,h0,h1,h2,h3,h4,h5,h6,h7,h8,h9,jA,jB,jC] r_1.2 := by kernel_rfl
theorem k45_23 : P45 [1,1,1,1,1] = .seq (P45 [1,1,1,1,1,0]) (P45 [1,1,1,1,1,1]) := by kernel_rfl
theorem k45_24 : P45 [1,1,1,1,1,0] = .seq (P45 [1,1,1,1,1,0,0]) (P45 [1,1,1,1,1,0,1]) := by kernel_rfl
theorem k45_25 : P45 [1,1,1,1,1,0,0] = .region 7 (O45 [1,1,1,1,1,0,0]) false := by kernel_rfl
theorem r45_7 {Ax8 : Option Addr} {lx8 cx8 : Nat} {M : Mem} {call : CallM} {K : Array Value → Mem → R} :
    opsK Try.prog (fun _ => call) (O45 [1,1,1,1,1,0,0]) (O45 [1,1,1,1,1,0,0]).toList 0 #[g0,g1,g2,g3,g4,g5,g6,g7,.slice Ax8 lx8 cx8,g9,gA,gB,gC,gD,gE,gF,gG,gH,gI,gJ,gK,gL,gM,gN,gO,gP,gQ,gR,gS,gT,gU,gV,gW,gX,gY,gZ,hA,hB,hC,hD,hE,hF,hG,hH,hI,hJ,hK,hL,hM,hN,hO,hP,hQ,hR,hS,hT,hU,hV,hW,hX,hY,hZ,h0,h1,h2,h3,h4,h5,h6,h7,h8,h9,jA,jB,jC] M K = K #[g0,g1,g2,g3,g4,g5,g6,g7,.slice Ax8 lx8 cx8,g9,gA,gB,gC,gD,gE,gF,gG,gH,gI,gJ,gK,gL,gM,gN,gO,gP,gQ,gR,gS,gT,gU,gV,gW,gX,gY,gZ,hA,hB,hC,.slice Ax8 lx8 cx8,.int .i64 ((lx8 : Int)),.int .i64 0,hG,hH,hI,hJ,hK,hL,hM,hN,hO,hP,hQ,hR,hS,hT,hU,hV,hW,hX,hY,hZ,h0,h1,h2,h3,h4,h5,h6,h7,h8,h9,jA,jB,jC] M := by kernel_rfl
theorem k45_26 : P45 [1,1,1,1,1,0,1] = .block 0 (P45 [1,1,1,1,1,0,1,0]) := by kernel_rfl
theorem k45_27 : P45 [1,1,1,1,1,0,1,0] = .loop (P45 [1,1,1,1,1,0,1,0,0]) := by kernel_rfl
theorem k45_28 : P45 [1,1,1,1,1,0,1,0,0] = .seq (P45 [1,1,1,1,1,0,1,0,0,0]) (P45 [1,1,1,1,1,0,1,0,0,1]) := by kernel_rfl
theorem k45_29 : P45 [1,1,1,1,1,0,1,0,0,0] = .region 8 (O45 [1,1,1,1,1,0,1,0,0,0]) false := by kernel_rfl
theorem r45_8 {x40 x41 : Int} {M : Mem} {call : CallM} {K : Array Value → Mem → R} :
    opsK Try.prog (fun _ => call) (O45 [1,1,1,1,1,0,1,0,0,0]) (O45 [1,1,1,1,1,0,1,0,0,0]).toList 0 #[g0,g1,g2,g3,g4,g5,g6,g7,g8,g9,gA,gB,gC,gD,gE,gF,gG,gH,gI,gJ,gK,gL,gM,gN,gO,gP,gQ,gR,gS,gT,gU,gV,gW,gX,gY,gZ,hA,hB,hC,hD,.int .i64 x40,.int .i64 x41,hG,hH,hI,hJ,hK,hL,hM,hN,hO,hP,hQ,hR,hS,hT,hU,hV,hW,hX,hY,hZ,h0,h1,h2,h3,h4,h5,h6,h7,h8,h9,jA,jB,jC] M K = K #[g0,g1,g2,g3,g4,g5,g6,g7,g8,g9,gA,gB,gC,gD,gE,gF,gG,gH,gI,gJ,gK,gL,gM,gN,gO,gP,gQ,gR,gS,gT,gU,gV,gW,gX,gY,gZ,hA,hB,hC,hD,.int .i64 x40,.int .i64 x41,.bool (decide (x41 < x40)),hH,hI,hJ,hK,hL,hM,hN,hO,hP,hQ,hR,hS,hT,hU,hV,hW,hX,hY,hZ,h0,h1,h2,h3,h4,h5,h6,h7,h8,h9,jA,jB,jC] M := by kernel_rfl
theorem k45_30 : P45 [1,1,1,1,1,0,1,0,0,1] = .seq (P45 [1,1,1,1,1,0,1,0,0,1,0]) (P45 [1,1,1,1,1,0,1,0,0,1,1]) := by kernel_rfl
theorem c45_31 : P45 [1,1,1,1,1,0,1,0,0,1,0] = .cond (.tmp 42) (P45 [1,1,1,1,1,0,1,0,0,1,0,0]) (P45 [1,1,1,1,1,0,1,0,0,1,0,1]) := by kernel_rfl
theorem k45_32 : P45 [1,1,1,1,1,0,1,0,0,1,0,0] = .skip := by kernel_rfl
theorem k45_33 : P45 [1,1,1,1,1,0,1,0,0,1,1] = .seq (P45 [1,1,1,1,1,0,1,0,0,1,1,0]) (P45 [1,1,1,1,1,0,1,0,0,1,1,1]) := by kernel_rfl
theorem k45_34 : P45 [1,1,1,1,1,0,1,0,0,1,1,0] = .block 1 (P45 [1,1,1,1,1,0,1,0,0,1,1,0,0]) := by kernel_rfl
theorem k45_35 : P45 [1,1,1,1,1,0,1,0,0,1,1,0,0] = .seq (P45 [1,1,1,1,1,0,1,0,0,1,1,0,0,0]) (P45 [1,1,1,1,1,0,1,0,0,1,1,0,0,1]) := by kernel_rfl
theorem k45_36 : P45 [1,1,1,1,1,0,1,0,0,1,1,0,0,0] = .region 9 (O45 [1,1,1,1,1,0,1,0,0,1,1,0,0,0]) false := by kernel_rfl
theorem r45_9 {x41 : Int} {M : Mem} {call : CallM} {K : Array Value → Mem → R} :
    opsK Try.prog (fun _ => call) (O45 [1,1,1,1,1,0,1,0,0,1,1,0,0,0]) (O45 [1,1,1,1,1,0,1,0,0,1,1,0,0,0]).toList 0 #[g0,g1,g2,g3,g4,g5,g6,g7,g8,g9,gA,gB,gC,gD,gE,gF,gG,gH,gI,gJ,gK,gL,gM,gN,gO,gP,gQ,gR,gS,gT,gU,gV,gW,gX,gY,gZ,hA,hB,hC,hD,hE,.int .i64 x41,hG,hH,hI,hJ,hK,hL,hM,hN,hO,hP,hQ,hR,hS,hT,hU,hV,hW,hX,hY,hZ,h0,h1,h2,h3,h4,h5,h6,h7,h8,h9,jA,jB,jC] M K = K #[g0,g1,g2,g3,g4,g5,g6,g7,g8,.int .i64 x41,gA,gB,gC,gD,gE,gF,gG,gH,gI,gJ,gK,gL,gM,gN,gO,gP,gQ,gR,gS,gT,gU,gV,gW,gX,gY,gZ,hA,hB,hC,hD,hE,.int .i64 x41,hG,.int .i64 x41,hI,hJ,hK,hL,hM,hN,hO,hP,hQ,hR,hS,hT,hU,hV,hW,hX,hY,hZ,h0,h1,h2,h3,h4,h5,h6,h7,h8,h9,jA,jB,jC] M := by kernel_rfl
theorem k45_37 : P45 [1,1,1,1,1,0,1,0,0,1,1,0,0,1] = .seq (P45 [1,1,1,1,1,0,1,0,0,1,1,0,0,1,0]) (P45 [1,1,1,1,1,0,1,0,0,1,1,0,0,1,1]) := by kernel_rfl
theorem k45_38 : P45 [1,1,1,1,1,0,1,0,0,1,1,0,0,1,0] = .seq (P45 [1,1,1,1,1,0,1,0,0,1,1,0,0,1,0,0]) (P45 [1,1,1,1,1,0,1,0,0,1,1,0,0,1,0,1]) := by kernel_rfl
theorem k45_39 : P45 [1,1,1,1,1,0,1,0,0,1,1,0,0,1,0,0] = .region 10 (O45 [1,1,1,1,1,0,1,0,0,1,1,0,0,1,0,0]) false := by kernel_rfl
theorem r45_10 {Ax1 : Option Addr} {lx1 cx1 : Nat} {M : Mem} {call : CallM} {K : Array Value → Mem → R} :
    opsK Try.prog (fun _ => call) (O45 [1,1,1,1,1,0,1,0,0,1,1,0,0,1,0,0]) (O45 [1,1,1,1,1,0,1,0,0,1,1,0,0,1,0,0]).toList 0 #[g0,.slice Ax1 lx1 cx1,g2,g3,g4,g5,g6,g7,g8,g9,gA,gB,gC,gD,gE,gF,gG,gH,gI,gJ,gK,gL,gM,gN,gO,gP,gQ,gR,gS,gT,gU,gV,gW,gX,gY,gZ,hA,hB,hC,hD,hE,hF,hG,hH,hI,hJ,hK,hL,hM,hN,hO,hP,hQ,hR,hS,hT,hU,hV,hW,hX,hY,hZ,h0,h1,h2,h3,h4,h5,h6,h7,h8,h9,jA,jB,jC] M K = K #[g0,.slice Ax1 lx1 cx1,g2,g3,g4,g5,g6,g7,g8,g9,gA,gB,gC,gD,gE,gF,gG,gH,gI,gJ,gK,gL,gM,gN,gO,gP,gQ,gR,gS,gT,gU,gV,gW,gX,gY,gZ,hA,hB,hC,hD,hE,hF,hG,hH,.slice Ax1 lx1 cx1,.int .i64 ((lx1 : Int)),.int .i64 0,hL,hM,hN,hO,hP,hQ,hR,hS,hT,hU,hV,hW,hX,hY,hZ,h0,h1,h2,h3,h4,h5,h6,h7,h8,h9,jA,jB,jC] M := by kernel_rfl
theorem k45_40 : P45 [1,1,1,1,1,0,1,0,0,1,1,0,0,1,0,1] = .block 2 (P45 [1,1,1,1,1,0,1,0,0,1,1,0,0,1,0,1,0]) := by kernel_rfl
theorem k45_41 : P45 [1,1,1,1,1,0,1,0,0,1,1,0,0,1,0,1,0] = .loop (P45 [1,1,1,1,1,0,1,0,0,1,1,0,0,1,0,1,0,0]) := by kernel_rfl
theorem k45_42 : P45 [1,1,1,1,1,0,1,0,0,1,0,1] = .exit 0 := by kernel_rfl
theorem k45_43 : P45 [1,1,1,1,1,1] = .seq (P45 [1,1,1,1,1,1,0]) (P45 [1,1,1,1,1,1,1]) := by kernel_rfl
theorem k45_44 : P45 [1,1,1,1,1,1,0] = .region 17 (O45 [1,1,1,1,1,1,0]) false := by kernel_rfl
theorem r45_17 {Ax8 : Option Addr} {lx8 cx8 : Nat} {M : Mem} {call : CallM} {K : Array Value → Mem → R} :
    opsK Try.prog (fun _ => call) (O45 [1,1,1,1,1,1,0]) (O45 [1,1,1,1,1,1,0]).toList 0 #[g0,g1,g2,g3,g4,g5,g6,g7,.slice Ax8 lx8 cx8,g9,gA,gB,gC,gD,gE,gF,gG,gH,gI,gJ,gK,gL,gM,gN,gO,gP,gQ,gR,gS,gT,gU,gV,gW,gX,gY,gZ,hA,hB,hC,hD,hE,hF,hG,hH,hI,hJ,hK,hL,hM,hN,hO,hP,hQ,hR,hS,hT,hU,hV,hW,hX,hY,hZ,h0,h1,h2,h3,h4,h5,h6,h7,h8,h9,jA,jB,jC] M K = K #[g0,g1,g2,g3,.slice Ax8 lx8 cx8,.int .i64 0,g6,g7,.slice Ax8 lx8 cx8,g9,gA,gB,gC,gD,gE,gF,gG,gH,gI,gJ,gK,gL,gM,gN,gO,gP,gQ,gR,gS,gT,gU,gV,gW,gX,gY,gZ,hA,hB,hC,hD,hE,hF,hG,hH,hI,hJ,hK,hL,hM,hN,hO,hP,hQ,hR,hS,hT,hU,hV,hW,hX,hY,hZ,h0,h1,h2,h3,h4,h5,h6,h7,h8,h9,jA,jB,.slice Ax8 lx8 cx8] M := by kernel_rfl
theorem k45_45 : P45 [1,1,1,1,1,1,1] = .ret := by kernel_rfl
theorem k45_46 : P45 [1,1,1,1,1,0,1,0,0,1,1,0,0,1,0,1,0,0] = .seq (P45 [1,1,1,1,1,0,1,0,0,1,1,0,0,1,0,1,0,0,0]) (P45 [1,1,1,1,1,0,1,0,0,1,1,0,0,1,0,1,0,0,1]) := by kernel_rfl
theorem k45_47 : P45 [1,1,1,1,1,0,1,0,0,1,1,0,0,1,0,1,0,0,0] = .region 11 (O45 [1,1,1,1,1,0,1,0,0,1,1,0,0,1,0,1,0,0,0]) false := by kernel_rfl
theorem r45_11 {x45 x46 : Int} {M : Mem} {call : CallM} {K : Array Value → Mem → R} :
    opsK Try.prog (fun _ => call) (O45 [1,1,1,1,1,0,1,0,0,1,1,0,0,1,0,1,0,0,0]) (O45 [1,1,1,1,1,0,1,0,0,1,1,0,0,1,0,1,0,0,0]).toList 0 #[g0,g1,g2,g3,g4,g5,g6,g7,g8,g9,gA,gB,gC,gD,gE,gF,gG,gH,gI,gJ,gK,gL,gM,gN,gO,gP,gQ,gR,gS,gT,gU,gV,gW,gX,gY,gZ,hA,hB,hC,hD,hE,hF,hG,hH,hI,.int .i64 x45,.int .i64 x46,hL,hM,hN,hO,hP,hQ,hR,hS,hT,hU,hV,hW,hX,hY,hZ,h0,h1,h2,h3,h4,h5,h6,h7,h8,h9,jA,jB,jC] M K = K #[g0,g1,g2,g3,g4,g5,g6,g7,g8,g9,gA,gB,gC,gD,gE,gF,gG,gH,gI,gJ,gK,gL,gM,gN,gO,gP,gQ,gR,gS,gT,gU,gV,gW,gX,gY,gZ,hA,hB,hC,hD,hE,hF,hG,hH,hI,.int .i64 x45,.int .i64 x46,.bool (decide (x46 < x45)),hM,hN,hO,hP,hQ,hR,hS,hT,hU,hV,hW,hX,hY,hZ,h0,h1,h2,h3,h4,h5,h6,h7,h8,h9,jA,jB,jC] M := by kernel_rfl
theorem k45_48 : P45 [1,1,1,1,1,0,1,0,0,1,1,0,0,1,0,1,0,0,1] = .seq (P45 [1,1,1,1,1,0,1,0,0,1,1,0,0,1,0,1,0,0,1,0]) (P45 [1,1,1,1,1,0,1,0,0,1,1,0,0,1,0,1,0,0,1,1]) := by kernel_rfl
theorem c45_49 : P45 [1,1,1,1,1,0,1,0,0,1,1,0,0,1,0,1,0,0,1,0] = .cond (.tmp 47) (P45 [1,1,1,1,1,0,1,0,0,1,1,0,0,1,0,1,0,0,1,0,0]) (P45 [1,1,1,1,1,0,1,0,0,1,1,0,0,1,0,1,0,0,1,0,1]) := by kernel_rfl
theorem k45_50 : P45 [1,1,1,1,1,0,1,0,0,1,1,0,0,1,0,1,0,0,1,0,0] = .skip := by kernel_rfl
theorem k45_51 : P45 [1,1,1,1,1,0,1,0,0,1,1,0,0,1,0,1,0,0,1,1] = .seq (P45 [1,1,1,1,1,0,1,0,0,1,1,0,0,1,0,1,0,0,1,1,0]) (P45 [1,1,1,1,1,0,1,0,0,1,1,0,0,1,0,1,0,0,1,1,1]) := by kernel_rfl
theorem k45_52 : P45 [1,1,1,1,1,0,1,0,0,1,1,0,0,1,0,1,0,0,1,1,0] = .block 3 (P45 [1,1,1,1,1,0,1,0,0,1,1,0,0,1,0,1,0,0,1,1,0,0]) := by kernel_rfl
theorem k45_53 : P45 [1,1,1,1,1,0,1,0,0,1,1,0,0,1,0,1,0,0,1,1,0,0] = .seq (P45 [1,1,1,1,1,0,1,0,0,1,1,0,0,1,0,1,0,0,1,1,0,0,0]) (P45 [1,1,1,1,1,0,1,0,0,1,1,0,0,1,0,1,0,0,1,1,0,0,1]) := by kernel_rfl
theorem k45_54 : P45 [1,1,1,1,1,0,1,0,0,1,1,0,0,1,0,1,0,0,1,1,0,0,0] = .region 12 (O45 [1,1,1,1,1,0,1,0,0,1,1,0,0,1,0,1,0,0,1,1,0,0,0]) false := by kernel_rfl
theorem r45_12 {Ax44 : Option Addr} {lx44 cx44 : Nat} {x46 : Int} {M : Mem} {call : CallM} {K : Array Value → Mem → R} :
    opsK Try.prog (fun _ => call) (O45 [1,1,1,1,1,0,1,0,0,1,1,0,0,1,0,1,0,0,1,1,0,0,0]) (O45 [1,1,1,1,1,0,1,0,0,1,1,0,0,1,0,1,0,0,1,1,0,0,0]).toList 0 #[g0,g1,g2,g3,g4,g5,g6,g7,g8,g9,gA,gB,gC,gD,gE,gF,gG,gH,gI,gJ,gK,gL,gM,gN,gO,gP,gQ,gR,gS,gT,gU,gV,gW,gX,gY,gZ,hA,hB,hC,hD,hE,hF,hG,hH,.slice Ax44 lx44 cx44,hJ,.int .i64 x46,hL,hM,hN,hO,hP,hQ,hR,hS,hT,hU,hV,hW,hX,hY,hZ,h0,h1,h2,h3,h4,h5,h6,h7,h8,h9,jA,jB,jC] M K = (idxA Ax44 lx44 1 x46).bind fun a_1 => (M.intAt .i64 a_1.block a_1.off).bind fun x_2 => K #[g0,g1,g2,g3,g4,g5,g6,g7,g8,g9,.int .i64 x46,.int .i64 x_2,gC,gD,gE,gF,gG,gH,gI,gJ,gK,gL,gM,gN,gO,gP,gQ,gR,gS,gT,gU,gV,gW,gX,gY,gZ,hA,hB,hC,hD,hE,hF,hG,hH,.slice Ax44 lx44 cx44,hJ,.int .i64 x46,hL,.int .i64 x46,.pointer (some a_1),.int .i64 x_2,hP,hQ,hR,hS,hT,hU,hV,hW,hX,hY,hZ,h0,h1,h2,h3,h4,h5,h6,h7,h8,h9,jA,jB,jC] M := by kernel_rfl
theorem k45_55 : P45 [1,1,1,1,1,0,1,0,0,1,1,0,0,1,0,1,0,0,1,1,0,0,1] = .region 13 (O45 [1,1,1,1,1,0,1,0,0,1,1,0,0,1,0,1,0,0,1,1,0,0,1]) true ∧ drawOk (O45 [1,1,1,1,1,0,1,0,0,1,1,0,0,1,0,1,0,0,1,1,0,0,1]) = true := ⟨by kernel_rfl, by kernel_rfl⟩
theorem r45_13 {x6 Ax8 : Option Addr} {lx8 cx8 : Nat} {x9 x10 x11 : Int} {M : Mem} {call : CallM} {K : Array Value → Mem → R} :
    opsI Try.prog (callAt call (O45 [1,1,1,1,1,0,1,0,0,1,1,0,0,1,0,1,0,0,1,1,0,0,1])) (O45 [1,1,1,1,1,0,1,0,0,1,1,0,0,1,0,1,0,0,1,1,0,0,1]) (ordOf (O45 [1,1,1,1,1,0,1,0,0,1,1,0,0,1,0,1,0,0,1,1,0,0,1])) [] #[g0,g1,g2,g3,g4,g5,.pointer x6,g7,.slice Ax8 lx8 cx8,.int .i64 x9,.int .i64 x10,.int .i64 x11,gC,gD,gE,gF,gG,gH,gI,gJ,gK,gL,gM,gN,gO,gP,gQ,gR,gS,gT,gU,gV,gW,gX,gY,gZ,hA,hB,hC,hD,hE,hF,hG,hH,hI,hJ,hK,hL,hM,hN,hO,hP,hQ,hR,hS,hT,hU,hV,hW,hX,hY,hZ,h0,h1,h2,h3,h4,h5,h6,h7,h8,h9,jA,jB,jC] M K = (idxA Ax8 lx8 1 x9).bind fun a_1 => (M.intAt .i64 a_1.block a_1.off).bind fun x_2 => (x6).bind fun a_3 => (M.cell a_3.block (a_3.off + 1)).bind fun v_4 => (callVal Try.prog v_4 #[.int .i64 x9, .int .i64 x10]).bind fun q_6 => (floored call q_6.1 q_6.2 M).bind fun r_5 => (asI .i64 r_5.1).bind fun x_7 => (idxA Ax8 lx8 1 x9).bind fun a_8 => (r_5.2.put a_8.block a_8.off (.int .i64 (IntKind.i64.wrap (x_2 + (IntKind.i64.wrap (x11 * x_7)))))).bind fun M_9 => K #[g0,g1,g2,g3,g4,g5,.pointer x6,g7,.slice Ax8 lx8 cx8,.int .i64 x9,.int .i64 x10,.int .i64 x11,gC,gD,gE,gF,gG,gH,gI,gJ,gK,gL,gM,gN,gO,gP,gQ,gR,gS,gT,gU,gV,gW,gX,gY,gZ,hA,hB,hC,hD,hE,hF,hG,hH,hI,hJ,hK,hL,hM,hN,hO,.slice Ax8 lx8 cx8,.int .i64 x9,.pointer (some a_1),.int .i64 x_2,.int .i64 x11,.pointer (some ⟨a_3.block, a_3.off + 1, none⟩),v_4,.int .i64 x9,.int .i64 x10,.int .i64 x_7,.int .i64 (IntKind.i64.wrap (x11 * x_7)),.int .i64 (IntKind.i64.wrap (x_2 + (IntKind.i64.wrap (x11 * x_7)))),.pointer (some a_8),h2,h3,h4,h5,h6,h7,h8,h9,jA,jB,jC] M_9 := by kernel_rfl
theorem k45_56 : P45 [1,1,1,1,1,0,1,0,0,1,1,0,0,1,0,1,0,0,1,1,1] = .region 14 (O45 [1,1,1,1,1,0,1,0,0,1,1,0,0,1,0,1,0,0,1,1,1]) false := by kernel_rfl
theorem r45_14 {x46 : Int} {M : Mem} {call : CallM} {K : Array Value → Mem → R} :
    opsK Try.prog (fun _ => call) (O45 [1,1,1,1,1,0,1,0,0,1,1,0,0,1,0,1,0,0,1,1,1]) (O45 [1,1,1,1,1,0,1,0,0,1,1,0,0,1,0,1,0,0,1,1,1]).toList 0 #[g0,g1,g2,g3,g4,g5,g6,g7,g8,g9,gA,gB,gC,gD,gE,gF,gG,gH,gI,gJ,gK,gL,gM,gN,gO,gP,gQ,gR,gS,gT,gU,gV,gW,gX,gY,gZ,hA,hB,hC,hD,hE,hF,hG,hH,hI,hJ,.int .i64 x46,hL,hM,hN,hO,hP,hQ,hR,hS,hT,hU,hV,hW,hX,hY,hZ,h0,h1,h2,h3,h4,h5,h6,h7,h8,h9,jA,jB,jC] M K = K #[g0,g1,g2,g3,g4,g5,g6,g7,g8,g9,gA,gB,gC,gD,gE,gF,gG,gH,gI,gJ,gK,gL,gM,gN,gO,gP,gQ,gR,gS,gT,gU,gV,gW,gX,gY,gZ,hA,hB,hC,hD,hE,hF,hG,hH,hI,hJ,.int .i64 (IntKind.i64.wrap (x46 + 1)),hL,hM,hN,hO,hP,hQ,hR,hS,hT,hU,hV,hW,hX,hY,hZ,h0,h1,.int .i64 (IntKind.i64.wrap (x46 + 1)),h3,h4,h5,h6,h7,h8,h9,jA,jB,jC] M := by kernel_rfl
theorem k45_57 : P45 [1,1,1,1,1,0,1,0,0,1,1,0,0,1,0,1,0,0,1,0,1] = .exit 2 := by kernel_rfl
theorem k45_58 : P45 [1,1,1,1,1,0,1,0,0,1,1,0,0,1,1] = .region 15 (O45 [1,1,1,1,1,0,1,0,0,1,1,0,0,1,1]) false := by kernel_rfl
theorem r45_15 {Ax8 : Option Addr} {lx8 cx8 : Nat} {x9 : Int} {M : Mem} {call : CallM} {K : Array Value → Mem → R} :
    opsK Try.prog (fun _ => call) (O45 [1,1,1,1,1,0,1,0,0,1,1,0,0,1,1]) (O45 [1,1,1,1,1,0,1,0,0,1,1,0,0,1,1]).toList 0 #[g0,g1,g2,g3,g4,g5,g6,g7,.slice Ax8 lx8 cx8,.int .i64 x9,gA,gB,gC,gD,gE,gF,gG,gH,gI,gJ,gK,gL,gM,gN,gO,gP,gQ,gR,gS,gT,gU,gV,gW,gX,gY,gZ,hA,hB,hC,hD,hE,hF,hG,hH,hI,hJ,hK,hL,hM,hN,hO,hP,hQ,hR,hS,hT,hU,hV,hW,hX,hY,hZ,h0,h1,h2,h3,h4,h5,h6,h7,h8,h9,jA,jB,jC] M K = (idxA Ax8 lx8 1 x9).bind fun a_1 => (M.intAt .i64 a_1.block a_1.off).bind fun x_2 => (call 54 #[.int .i64 x_2] M).bind fun r_3 => (asI .i64 r_3.1).bind fun x_4 => (idxA Ax8 lx8 1 x9).bind fun a_5 => (r_3.2.put a_5.block a_5.off (.int .i64 x_4)).bind fun M_6 => K #[g0,g1,g2,g3,g4,g5,g6,g7,.slice Ax8 lx8 cx8,.int .i64 x9,gA,gB,gC,gD,gE,gF,gG,gH,gI,gJ,gK,gL,gM,gN,gO,gP,gQ,gR,gS,gT,gU,gV,gW,gX,gY,gZ,hA,hB,hC,hD,hE,hF,hG,hH,hI,hJ,hK,hL,hM,hN,hO,hP,hQ,hR,hS,hT,hU,hV,hW,hX,hY,hZ,h0,h1,h2,.slice Ax8 lx8 cx8,.int .i64 x9,.slice Ax8 lx8 cx8,.int .i64 x9,.pointer (some a_1),.int .i64 x_2,.int .i64 x_4,.pointer (some a_5),jB,jC] M_6 := by kernel_rfl
theorem k45_59 : P45 [1,1,1,1,1,0,1,0,0,1,1,1] = .region 16 (O45 [1,1,1,1,1,0,1,0,0,1,1,1]) false := by kernel_rfl
theorem r45_16 {x41 : Int} {M : Mem} {call : CallM} {K : Array Value → Mem → R} :
    opsK Try.prog (fun _ => call) (O45 [1,1,1,1,1,0,1,0,0,1,1,1]) (O45 [1,1,1,1,1,0,1,0,0,1,1,1]).toList 0 #[g0,g1,g2,g3,g4,g5,g6,g7,g8,g9,gA,gB,gC,gD,gE,gF,gG,gH,gI,gJ,gK,gL,gM,gN,gO,gP,gQ,gR,gS,gT,gU,gV,gW,gX,gY,gZ,hA,hB,hC,hD,hE,.int .i64 x41,hG,hH,hI,hJ,hK,hL,hM,hN,hO,hP,hQ,hR,hS,hT,hU,hV,hW,hX,hY,hZ,h0,h1,h2,h3,h4,h5,h6,h7,h8,h9,jA,jB,jC] M K = K #[g0,g1,g2,g3,g4,g5,g6,g7,g8,g9,gA,gB,gC,gD,gE,gF,gG,gH,gI,gJ,gK,gL,gM,gN,gO,gP,gQ,gR,gS,gT,gU,gV,gW,gX,gY,gZ,hA,hB,hC,hD,hE,.int .i64 (IntKind.i64.wrap (x41 + 1)),hG,hH,hI,hJ,hK,hL,hM,hN,hO,hP,hQ,hR,hS,hT,hU,hV,hW,hX,hY,hZ,h0,h1,h2,h3,h4,h5,h6,h7,h8,h9,jA,.int .i64 (IntKind.i64.wrap (x41 + 1)),jC] M := by kernel_rfl
noncomputable def S45_1 : List Item := [.code (P45 [1,1,1,1,1,0,1,0,0]), .inLoop (P45 [1,1,1,1,1,0,1,0,0]), .inBlock 0, .code (P45 [1,1,1,1,1,1])]
def A45_1 (Ax1 : Option Addr) (lx1 cx1 : Nat) (x6 Ax8 : Option Addr) (lx8 cx8 : Nat) (x40 x41 : Int) (M : Mem) (Q : Value → Mem → Prop) : Prop := ∀ (g0 g2 g3 g4 g5 g7 g9 gA gB gC gD gE gF gG gH gI gJ gK gL gM gN gO gP gQ gR gS gT gU gV gW gX gY gZ hA hB hC hD hG hH hI hJ hK hL hM hN hO hP hQ hR hS hT hU hV hW hX hY hZ h0 h1 h2 h3 h4 h5 h6 h7 h8 h9 jA jB jC : Value), Rn Try.prog Try.f45 S45_1 #[g0, .slice Ax1 lx1 cx1, g2, g3, g4, g5, .pointer x6, g7, .slice Ax8 lx8 cx8, g9, gA, gB, gC, gD, gE, gF, gG, gH, gI, gJ, gK, gL, gM, gN, gO, gP, gQ, gR, gS, gT, gU, gV, gW, gX, gY, gZ, hA, hB, hC, hD, .int .i64 x40, .int .i64 x41, hG, hH, hI, hJ, hK, hL, hM, hN, hO, hP, hQ, hR, hS, hT, hU, hV, hW, hX, hY, hZ, h0, h1, h2, h3, h4, h5, h6, h7, h8, h9, jA, jB, jC] M Q
noncomputable def S45_2 : List Item := [.code (P45 [1,1,1,1,1,0,1,0,0,1,1,0,0,1,0,1,0,0]), .inLoop (P45 [1,1,1,1,1,0,1,0,0,1,1,0,0,1,0,1,0,0]), .inBlock 2, .code (P45 [1,1,1,1,1,0,1,0,0,1,1,0,0,1,1]), .inBlock 1, .code (P45 [1,1,1,1,1,0,1,0,0,1,1,1]), .inLoop (P45 [1,1,1,1,1,0,1,0,0]), .inBlock 0, .code (P45 [1,1,1,1,1,1])]
def A45_2 (Ax1 : Option Addr) (lx1 cx1 : Nat) (x6 Ax8 : Option Addr) (lx8 cx8 : Nat) (x9 x40 x41 : Int) (Ax44 : Option Addr) (lx44 cx44 : Nat) (x45 x46 : Int) (M : Mem) (Q : Value → Mem → Prop) : Prop := ∀ (g0 g2 g3 g4 g5 g7 gA gB gC gD gE gF gG gH gI gJ gK gL gM gN gO gP gQ gR gS gT gU gV gW gX gY gZ hA hB hC hD hG hH hL hM hN hO hP hQ hR hS hT hU hV hW hX hY hZ h0 h1 h2 h3 h4 h5 h6 h7 h8 h9 jA jB jC : Value), Rn Try.prog Try.f45 S45_2 #[g0, .slice Ax1 lx1 cx1, g2, g3, g4, g5, .pointer x6, g7, .slice Ax8 lx8 cx8, .int .i64 x9, gA, gB, gC, gD, gE, gF, gG, gH, gI, gJ, gK, gL, gM, gN, gO, gP, gQ, gR, gS, gT, gU, gV, gW, gX, gY, gZ, hA, hB, hC, hD, .int .i64 x40, .int .i64 x41, hG, hH, .slice Ax44 lx44 cx44, .int .i64 x45, .int .i64 x46, hL, hM, hN, hO, hP, hQ, hR, hS, hT, hU, hV, hW, hX, hY, hZ, h0, h1, h2, h3, h4, h5, h6, h7, h8, h9, jA, jB, jC] M Q
theorem w45_0 {x0 : Int} {Ax1 : Option Addr} {lx1 cx1 : Nat} {M : Mem} {Q : Value → Mem → Prop} (H :
    Cn Try.prog 52 #[.int .i64 x0, .slice Ax1 lx1 cx1] M fun v1' N1' =>
     ∃ cs2', asU 2 v1' = some cs2' ∧
     ∃ cs3', asA 2 (cs2'.getD 0 undef) = some cs3' ∧
     ∃ x4', asI .i64 (cs3'.getD 0 undef) = some x4' ∧
     ∃ b5', asB (cs2'.getD 1 undef) = some b5' ∧
     ∃ M6', (N1'.new (.cells #[.int .i64 0, .nilFunc] 54)).put (2 * N1'.nb.size) 0 (.int .i64 x4') = some M6' ∧
     ∃ M7', M6'.put (2 * N1'.nb.size) 1 (cs3'.getD 1 undef) = some M7' ∧
     (((!b5') = true →
      Q (.tuple #[.slice none 0 0, .int .i64 2]) M7') ∧
      ((!b5') = false →
      ∃ v8', M7'.cell (2 * N1'.nb.size) (0 + 1) = some v8' ∧
      ∃ b9', fnilV Try.prog 33 v8' = some b9' ∧
      ((b9' = true →
       ∃ a10', idxA Ax1 lx1 1 0 = some a10' ∧
       ∃ x11', M7'.intAt .i64 a10'.block a10'.off = some x11' ∧
       ∃ a12', idxA Ax1 lx1 1 1 = some a12' ∧
       ∃ x13', M7'.intAt .i64 a12'.block a12'.off = some x13' ∧
       ∃ a14', idxA Ax1 lx1 1 2 = some a14' ∧
       ∃ x15', M7'.intAt .i64 a14'.block a14'.off = some x15' ∧
       ∃ a16', idxA Ax1 lx1 1 3 = some a16' ∧
       ∃ x17', M7'.intAt .i64 a16'.block a16'.off = some x17' ∧
       Cn Try.prog 57 #[.int .i64 x11', .int .i64 x13', .int .i64 x15', .int .i64 x17'] M7' fun v18' N18' =>
        ∃ s19', asS v18' = some s19' ∧
        Q (.tuple #[.slice s19'.1 (s19'.2.1) (s19'.2.2), .int .i64 0]) N18') ∧
       (b9' = false →
       ∃ r20', makeP Try.prog 22 (.int .i64 ((lx1 : Int))) (.int .i64 ((lx1 : Int))) M7' = some r20' ∧
       ∃ s21', asS r20'.1 = some s21' ∧
       A45_1 Ax1 lx1 cx1 (some ⟨2 * N1'.nb.size, 0, none⟩) s21'.1 s21'.2.1 s21'.2.2 (s21'.2.1 : Int) 0 r20'.2 Q))))) :
    Cn Try.prog 45 #[.int .i64 x0, .slice Ax1 lx1 cx1] M Q := by
  refine Cn.of b45 d45 t45 ?_
  refine Rn.seq k45_0 (Rn.region k45_1 (fun call K => r45_0) (Rch.leaf (Rn.seq k45_2 (Rn.region k45_3 (fun call K => r45_1) (Rch.call H fun v1' N1' H => Rch.ex H fun cs2' H => Rch.ex H fun cs3' H => Rch.ex H fun x4' H => Rch.ex H fun b5' H => Rch.ex H fun M6' H => Rch.ex H fun M7' H => ?_)))))
  refine Rch.leaf (Rn.seq k45_4 (Rn.seq k45_5 (Rn.region k45_6 (fun call K => r45_2) (Rch.leaf ?_))))
  refine Rn.cnd (v := !b5') ⟨c45_7, rfl, by kernel_rfl⟩ (fun h => ?_) (fun h => ?_)
  · replace H := H.1 (h)
    refine Rn.seq k45_8 (Rn.region k45_9 (fun call K => r45_3) (Rch.leaf ?_))
    exact Rn.ret k45_10 e45 H
  · replace H := H.2 (h)
    refine Rn.skip k45_12 (Rn.seq k45_13 (Rn.seq k45_14 (Rn.region k45_15 (fun call K => r45_4) (Rch.bind (x := ⟨2 * N1'.nb.size, 0, none⟩) rfl (Rch.ex H fun v8' H => Rch.ex H fun b9' H => Rch.leaf ?_)))))
    refine Rn.cnd (v := b9') ⟨c45_16, rfl, by kernel_rfl⟩ (fun h => ?_) (fun h => ?_)
    · replace H := H.1 (h)
      refine Rn.seq k45_17 (Rn.regionD k45_18 (fun call K => r45_5) (Rch.ex H fun a10' H => Rch.ex H fun x11' H => Rch.ex H fun a12' H => Rch.ex H fun x13' H => Rch.ex H fun a14' H => Rch.ex H fun x15' H => Rch.ex H fun a16' H => Rch.ex H fun x17' H => Rch.call H fun v18' N18' H => Rch.ex H fun s19' H => ?_))
      refine Rch.leaf ?_
      exact Rn.ret k45_19 e45 H
    · replace H := H.2 (h)
      refine Rn.skip k45_20 (Rn.seq k45_21 (Rn.region k45_22 (fun call K => r45_6) (Rch.ex H fun r20' H => Rch.ex H fun s21' H => Rch.leaf (Rn.seq k45_23 (Rn.seq k45_24 (Rn.region k45_25 (fun call K => r45_7) (Rch.leaf (Rn.block k45_26 (Rn.loop k45_27 ?_)))))))))
      exact H _ _ _ _ _ _ _ _ _ _ _ _ _ _ _ _ _ _ _ _ _ _ _ _ _ _ _ _ _ _ _ _ _ _ _ _ _ _ _ _ _ _ _ _ _ _ _ _ _ _ _ _ _ _ _ _ _ _ _ _ _ _ _ _ _ _ _ _ _ _

theorem w45_1 {Ax1 : Option Addr} {lx1 cx1 : Nat} {x6 Ax8 : Option Addr} {lx8 cx8 : Nat} {x40 x41 : Int} {M : Mem} {Q : Value → Mem → Prop} (H :
    ((x41 < x40 →
     A45_2 Ax1 lx1 cx1 x6 Ax8 lx8 cx8 x41 x40 x41 Ax1 lx1 cx1 (lx1 : Int) 0 M Q) ∧
     (¬ (x41 < x40) →
     Q (.tuple #[.slice Ax8 lx8 cx8, .int .i64 0]) M))) :
    A45_1 Ax1 lx1 cx1 x6 Ax8 lx8 cx8 x40 x41 M Q := by
  intro g0 g2 g3 g4 g5 g7 g9 gA gB gC gD gE gF gG gH gI gJ gK gL gM gN gO gP gQ gR gS gT gU gV gW gX gY gZ hA hB hC hD hG hH hI hJ hK hL hM hN hO hP hQ hR hS hT hU hV hW hX hY hZ h0 h1 h2 h3 h4 h5 h6 h7 h8 h9 jA jB jC
  refine Rn.seq k45_28 (Rn.region k45_29 (fun call K => r45_8) (Rch.leaf (Rn.seq k45_30 ?_)))
  refine Rn.cnd (v := decide (x41 < x40)) ⟨c45_31, rfl, by kernel_rfl⟩ (fun h => ?_) (fun h => ?_)
  · replace H := H.1 (of_decide_eq_true h)
    refine Rn.skip k45_32 (Rn.seq k45_33 (Rn.block k45_34 (Rn.seq k45_35 (Rn.region k45_36 (fun call K => r45_9) (Rch.leaf (Rn.seq k45_37 (Rn.seq k45_38 (Rn.region k45_39 (fun call K => r45_10) (Rch.leaf (Rn.block k45_40 (Rn.loop k45_41 ?_)))))))))))
    exact H _ _ _ _ _ _ _ _ _ _ _ _ _ _ _ _ _ _ _ _ _ _ _ _ _ _ _ _ _ _ _ _ _ _ _ _ _ _ _ _ _ _ _ _ _ _ _ _ _ _ _ _ _ _ _ _ _ _ _ _ _ _ _ _ _ _
  · replace H := H.2 (of_decide_eq_false h)
    refine Rn.exit k45_42 rfl (Rn.seq k45_43 (Rn.region k45_44 (fun call K => r45_17) (Rch.leaf ?_)))
    exact Rn.ret k45_45 e45 H

theorem w45_2 {Ax1 : Option Addr} {lx1 cx1 : Nat} {x6 Ax8 : Option Addr} {lx8 cx8 : Nat} {x9 x40 x41 : Int} {Ax44 : Option Addr} {lx44 cx44 : Nat} {x45 x46 : Int} {M : Mem} {Q : Value → Mem → Prop} (H :
    ((x46 < x45 →
     ∃ a22', idxA Ax44 lx44 1 x46 = some a22' ∧
     ∃ x23', M.intAt .i64 a22'.block a22'.off = some x23' ∧
     ∃ a24', idxA Ax8 lx8 1 x9 = some a24' ∧
     ∃ x25', M.intAt .i64 a24'.block a24'.off = some x25' ∧
     ∃ a26', x6 = some a26' ∧
     ∃ v27', M.cell a26'.block (a26'.off + 1) = some v27' ∧
     ∃ q28', callVal Try.prog v27' #[.int .i64 x9, .int .i64 x46] = some q28' ∧
     Cn Try.prog q28'.1 q28'.2 { M with floor := M.nb.size } fun v29' N29' =>
      ∃ x30', asI .i64 v29' = some x30' ∧
      ∃ a31', idxA Ax8 lx8 1 x9 = some a31' ∧
      ∃ M32', { N29' with floor := M.floor }.put a31'.block a31'.off (.int .i64 (IntKind.i64.wrap (x25' + (IntKind.i64.wrap (x23' * x30'))))) = some M32' ∧
      A45_2 Ax1 lx1 cx1 x6 Ax8 lx8 cx8 x9 x40 x41 Ax44 lx44 cx44 x45 (IntKind.i64.wrap (x46 + 1)) M32' Q) ∧
     (¬ (x46 < x45) →
     ∃ a33', idxA Ax8 lx8 1 x9 = some a33' ∧
     ∃ x34', M.intAt .i64 a33'.block a33'.off = some x34' ∧
     Cn Try.prog 54 #[.int .i64 x34'] M fun v35' N35' =>
      ∃ x36', asI .i64 v35' = some x36' ∧
      ∃ a37', idxA Ax8 lx8 1 x9 = some a37' ∧
      ∃ M38', N35'.put a37'.block a37'.off (.int .i64 x36') = some M38' ∧
      A45_1 Ax1 lx1 cx1 x6 Ax8 lx8 cx8 x40 (IntKind.i64.wrap (x41 + 1)) M38' Q))) :
    A45_2 Ax1 lx1 cx1 x6 Ax8 lx8 cx8 x9 x40 x41 Ax44 lx44 cx44 x45 x46 M Q := by
  intro g0 g2 g3 g4 g5 g7 gA gB gC gD gE gF gG gH gI gJ gK gL gM gN gO gP gQ gR gS gT gU gV gW gX gY gZ hA hB hC hD hG hH hL hM hN hO hP hQ hR hS hT hU hV hW hX hY hZ h0 h1 h2 h3 h4 h5 h6 h7 h8 h9 jA jB jC
  refine Rn.seq k45_46 (Rn.region k45_47 (fun call K => r45_11) (Rch.leaf (Rn.seq k45_48 ?_)))
  refine Rn.cnd (v := decide (x46 < x45)) ⟨c45_49, rfl, by kernel_rfl⟩ (fun h => ?_) (fun h => ?_)
  · replace H := H.1 (of_decide_eq_true h)
    refine Rn.skip k45_50 (Rn.seq k45_51 (Rn.block k45_52 (Rn.seq k45_53 (Rn.region k45_54 (fun call K => r45_12) (Rch.ex H fun a22' H => Rch.ex H fun x23' H => Rch.leaf (Rn.regionD k45_55 (fun call K => r45_13) (Rch.ex H fun a24' H => Rch.ex H fun x25' H => Rch.ex H fun a26' H => ?_)))))))
    refine Rch.ex H fun v27' H => Rch.ex H fun q28' H => Rch.callF H fun v29' N29' H => Rch.ex H fun x30' H => Rch.ex H fun a31' H => Rch.ex H fun M32' H => Rch.leaf (Rn.blk (Rn.region k45_56 (fun call K => r45_14) (Rch.leaf (Rn.lp ?_))))
    exact H _ _ _ _ _ _ _ _ _ _ _ _ _ _ _ _ _ _ _ _ _ _ _ _ _ _ _ _ _ _ _ _ _ _ _ _ _ _ _ _ _ _ _ _ _ _ _ _ _ _ _ _ _ _ _ _ _ _ _ _ _ _ _ _ _ _
  · replace H := H.2 (of_decide_eq_false h)
    refine Rn.exit k45_57 rfl (Rn.region k45_58 (fun call K => r45_15) (Rch.ex H fun a33' H => Rch.ex H fun x34' H => Rch.call H fun v35' N35' H => Rch.ex H fun x36' H => Rch.ex H fun a37' H => Rch.ex H fun M38' H => Rch.leaf (Rn.blk (Rn.region k45_59 (fun call K => r45_16) (Rch.leaf ?_)))))
    refine Rn.lp ?_
    exact H _ _ _ _ _ _ _ _ _ _ _ _ _ _ _ _ _ _ _ _ _ _ _ _ _ _ _ _ _ _ _ _ _ _ _ _ _ _ _ _ _ _ _ _ _ _ _ _ _ _ _ _ _ _ _ _ _ _ _ _ _ _ _ _ _ _ _ _ _ _


/-! ### zoetrope/basis.Inverse: function 33 -/
noncomputable abbrev P33 (p : List Nat) : Code := subC (codeOf Try.f33) p
noncomputable abbrev O33 (p : List Nat) : Array Oper := opsOf (subC (codeOf Try.f33) p)
theorem b33 : Try.prog.funcs[33]? = some Try.f33 ∧ (Orc.tab Try.prog).lookup 33 = none := ⟨by kernel_rfl, by kernel_rfl⟩
theorem d33 : Try.f33.body = some (P33 []) := by kernel_rfl
theorem t33 {x0 : Int} {Ax1 : Option Addr} {lx1 cx1 : Nat} : #[.int .i64 x0,.slice Ax1 lx1 cx1] ++ Array.replicate (Try.f33.ntmps - (#[.int .i64 x0,.slice Ax1 lx1 cx1] : Array Value).size) undef = #[.int .i64 x0,.slice Ax1 lx1 cx1,undef,undef,undef,undef,undef,undef,undef,undef,undef,undef,undef,undef,undef,undef,undef,undef,undef,undef,undef,undef,undef,undef,undef,undef,undef,undef,undef,undef,undef,undef,undef,undef,undef,undef,undef,undef,undef,undef,undef,undef,undef,undef,undef,undef,undef,undef,undef,undef,undef,undef,undef,undef,undef,undef,undef,undef,undef,undef,undef,undef,undef,undef,undef,undef,undef,undef,undef,undef,undef,undef,undef,undef,undef,undef,undef] := by kernel_rfl
theorem k33_0 : P33 [] = .seq (P33 [0]) (P33 [1]) := by kernel_rfl
theorem k33_1 : P33 [0] = .region 0 (O33 [0]) false := by kernel_rfl
theorem r33_0 {M : Mem} {call : CallM} {K : Array Value → Mem → R} :
    opsK Try.prog (fun _ => call) (O33 [0]) (O33 [0]).toList 0 #[g0,g1,g2,g3,g4,g5,g6,g7,g8,g9,gA,gB,gC,gD,gE,gF,gG,gH,gI,gJ,gK,gL,gM,gN,gO,gP,gQ,gR,gS,gT,gU,gV,gW,gX,gY,gZ,hA,hB,hC,hD,hE,hF,hG,hH,hI,hJ,hK,hL,hM,hN,hO,hP,hQ,hR,hS,hT,hU,hV,hW,hX,hY,hZ,h0,h1,h2,h3,h4,h5,h6,h7,h8,h9,jA,jB,jC,jD,jE] M K = K #[g0,g1,g2,g3,.slice none 0 0,.int .i64 0,g6,g7,g8,g9,gA,gB,gC,gD,gE,gF,gG,gH,gI,gJ,gK,gL,gM,gN,gO,gP,gQ,gR,gS,gT,gU,gV,gW,gX,gY,gZ,hA,hB,hC,hD,hE,hF,hG,hH,hI,hJ,hK,hL,hM,hN,hO,hP,hQ,hR,hS,hT,hU,hV,hW,hX,hY,hZ,h0,h1,h2,h3,h4,h5,h6,h7,h8,h9,jA,jB,jC,jD,jE] M := by kernel_rfl
theorem k33_2 : P33 [1] = .seq (P33 [1,0]) (P33 [1,1]) := by kernel_rfl
theorem k33_3 : P33 [1,0] = .region 1 (O33 [1,0]) false := by kernel_rfl
theorem r33_1 {x0 : Int} {Ax1 : Option Addr} {lx1 cx1 : Nat} {M : Mem} {call : CallM} {K : Array Value → Mem → R} :
    opsK Try.prog (fun _ => call) (O33 [1,0]) (O33 [1,0]).toList 0 #[.int .i64 x0,.slice Ax1 lx1 cx1,g2,g3,g4,g5,g6,g7,g8,g9,gA,gB,gC,gD,gE,gF,gG,gH,gI,gJ,gK,gL,gM,gN,gO,gP,gQ,gR,gS,gT,gU,gV,gW,gX,gY,gZ,hA,hB,hC,hD,hE,hF,hG,hH,hI,hJ,hK,hL,hM,hN,hO,hP,hQ,hR,hS,hT,hU,hV,hW,hX,hY,hZ,h0,h1,h2,h3,h4,h5,h6,h7,h8,h9,jA,jB,jC,jD,jE] M K = (call 52 #[.int .i64 x0, .slice Ax1 lx1 cx1] M).bind fun r_1 => (asU 2 r_1.1).bind fun cs_2 => (asA 2 (cs_2.getD 0 undef)).bind fun cs_3 => (asI .i64 (cs_3.getD 0 undef)).bind fun x_4 => (asB (cs_2.getD 1 undef)).bind fun b_5 => ((r_1.2.new (.cells #[.int .i64 0, .nilFunc] 54)).put (2 * r_1.2.nb.size) 0 (.int .i64 x_4)).bind fun M_6 => (M_6.put (2 * r_1.2.nb.size) 1 (cs_3.getD 1 undef)).bind fun M_7 => K #[.int .i64 x0,.slice Ax1 lx1 cx1,g2,g3,g4,g5,.pointer (some ⟨2 * r_1.2.nb.size, 0, none⟩),.bool b_5,g8,g9,gA,gB,.tuple #[.agg #[.int .i64 x_4, cs_3.getD 1 undef], .bool b_5],.int .i64 x0,.slice Ax1 lx1 cx1,.tuple #[.agg #[.int .i64 x_4, cs_3.getD 1 undef], .bool b_5],.agg #[.int .i64 x_4, cs_3.getD 1 undef],.bool b_5,gI,gJ,gK,gL,gM,gN,gO,gP,gQ,gR,gS,gT,gU,gV,gW,gX,gY,gZ,hA,hB,hC,hD,hE,hF,hG,hH,hI,hJ,hK,hL,hM,hN,hO,hP,hQ,hR,hS,hT,hU,hV,hW,hX,hY,hZ,h0,h1,h2,h3,h4,h5,h6,h7,h8,h9,jA,jB,jC,jD,jE] M_7 := by kernel_rfl
theorem k33_4 : P33 [1,1] = .seq (P33 [1,1,0]) (P33 [1,1,1]) := by kernel_rfl
theorem k33_5 : P33 [1,1,0] = .seq (P33 [1,1,0,0]) (P33 [1,1,0,1]) := by kernel_rfl
theorem k33_6 : P33 [1,1,0,0] = .region 2 (O33 [1,1,0,0]) false := by kernel_rfl
theorem r33_2 {x7 : Bool} {M : Mem} {call : CallM} {K : Array Value → Mem → R} :
    opsK Try.prog (fun _ => call) (O33 [1,1,0,0]) (O33 [1,1,0,0]).toList 0 #[g0,g1,g2,g3,g4,g5,g6,.bool x7,g8,g9,gA,gB,gC,gD,gE,gF,gG,gH,gI,gJ,gK,gL,gM,gN,gO,gP,gQ,gR,gS,gT,gU,gV,gW,gX,gY,gZ,hA,hB,hC,hD,hE,hF,hG,hH,hI,hJ,hK,hL,hM,hN,hO,hP,hQ,hR,hS,hT,hU,hV,hW,hX,hY,hZ,h0,h1,h2,h3,h4,h5,h6,h7,h8,h9,jA,jB,jC,jD,jE] M K = K #[g0,g1,g2,g3,g4,g5,g6,.bool x7,g8,g9,gA,gB,gC,gD,gE,gF,gG,gH,.bool x7,.bool (!x7),gK,gL,gM,gN,gO,gP,gQ,gR,gS,gT,gU,gV,gW,gX,gY,gZ,hA,hB,hC,hD,hE,hF,hG,hH,hI,hJ,hK,hL,hM,hN,hO,hP,hQ,hR,hS,hT,hU,hV,hW,hX,hY,hZ,h0,h1,h2,h3,h4,h5,h6,h7,h8,h9,jA,jB,jC,jD,jE] M := by kernel_rfl
theorem c33_7 : P33 [1,1,0,1] = .cond (.tmp 19) (P33 [1,1,0,1,0]) (P33 [1,1,0,1,1]) := by kernel_rfl
theorem k33_8 : P33 [1,1,0,1,0] = .seq (P33 [1,1,0,1,0,0]) (P33 [1,1,0,1,0,1]) := by kernel_rfl
theorem k33_9 : P33 [1,1,0,1,0,0] = .region 3 (O33 [1,1,0,1,0,0]) false := by kernel_rfl
theorem r33_3 {M : Mem} {call : CallM} {K : Array Value → Mem → R} :
    opsK Try.prog (fun _ => call) (O33 [1,1,0,1,0,0]) (O33 [1,1,0,1,0,0]).toList 0 #[g0,g1,g2,g3,g4,g5,g6,g7,g8,g9,gA,gB,gC,gD,gE,gF,gG,gH,gI,gJ,gK,gL,gM,gN,gO,gP,gQ,gR,gS,gT,gU,gV,gW,gX,gY,gZ,hA,hB,hC,hD,hE,hF,hG,hH,hI,hJ,hK,hL,hM,hN,hO,hP,hQ,hR,hS,hT,hU,hV,hW,hX,hY,hZ,h0,h1,h2,h3,h4,h5,h6,h7,h8,h9,jA,jB,jC,jD,jE] M K = K #[g0,g1,g2,g3,.slice none 0 0,.int .i64 2,g6,g7,g8,g9,gA,gB,gC,gD,gE,gF,gG,gH,gI,gJ,gK,gL,gM,gN,gO,gP,gQ,gR,gS,gT,gU,gV,gW,gX,gY,gZ,hA,hB,hC,hD,hE,hF,hG,hH,hI,hJ,hK,hL,hM,hN,hO,hP,hQ,hR,hS,hT,hU,hV,hW,hX,hY,hZ,h0,h1,h2,h3,h4,h5,h6,h7,h8,h9,jA,jB,jC,jD,jE] M := by kernel_rfl
theorem k33_10 : P33 [1,1,0,1,0,1] = .ret := by kernel_rfl
theorem e33 {M : Mem} : finish Try.prog Try.f33 #[g0,g1,g2,g3,g4,g5,g6,g7,g8,g9,gA,gB,gC,gD,gE,gF,gG,gH,gI,gJ,gK,gL,gM,gN,gO,gP,gQ,gR,gS,gT,gU,gV,gW,gX,gY,gZ,hA,hB,hC,hD,hE,hF,hG,hH,hI,hJ,hK,hL,hM,hN,hO,hP,hQ,hR,hS,hT,hU,hV,hW,hX,hY,hZ,h0,h1,h2,h3,h4,h5,h6,h7,h8,h9,jA,jB,jC,jD,jE] M = some (.tuple #[g4, g5], M) := by kernel_rfl
theorem k33_12 : P33 [1,1,0,1,1] = .skip := by kernel_rfl
theorem k33_13 : P33 [1,1,1] = .seq (P33 [1,1,1,0]) (P33 [1,1,1,1]) := by kernel_rfl
theorem k33_14 : P33 [1,1,1,0] = .seq (P33 [1,1,1,0,0]) (P33 [1,1,1,0,1]) := by kernel_rfl
theorem k33_15 : P33 [1,1,1,0,0] = .region 4 (O33 [1,1,1,0,0]) false := by kernel_rfl
theorem r33_4 {x6 : Option Addr} {M : Mem} {call : CallM} {K : Array Value → Mem → R} :
    opsK Try.prog (fun _ => call) (O33 [1,1,1,0,0]) (O33 [1,1,1,0,0]).toList 0 #[g0,g1,g2,g3,g4,g5,.pointer x6,g7,g8,g9,gA,gB,gC,gD,gE,gF,gG,gH,gI,gJ,gK,gL,gM,gN,gO,gP,gQ,gR,gS,gT,gU,gV,gW,gX,gY,gZ,hA,hB,hC,hD,hE,hF,hG,hH,hI,hJ,hK,hL,hM,hN,hO,hP,hQ,hR,hS,hT,hU,hV,hW,hX,hY,hZ,h0,h1,h2,h3,h4,h5,h6,h7,h8,h9,jA,jB,jC,jD,jE] M K = (x6).bind fun a_1 => (M.cell a_1.block (a_1.off + 1)).bind fun v_2 => (fnilV Try.prog 33 v_2).bind fun b_3 => K #[g0,g1,g2,g3,g4,g5,.pointer x6,g7,g8,g9,gA,gB,gC,gD,gE,gF,gG,gH,gI,gJ,.pointer (some ⟨a_1.block, a_1.off + 1, none⟩),v_2,.bool b_3,gN,gO,gP,gQ,gR,gS,gT,gU,gV,gW,gX,gY,gZ,hA,hB,hC,hD,hE,hF,hG,hH,hI,hJ,hK,hL,hM,hN,hO,hP,hQ,hR,hS,hT,hU,hV,hW,hX,hY,hZ,h0,h1,h2,h3,h4,h5,h6,h7,h8,h9,jA,jB,jC,jD,jE] M := by kernel_rfl
theorem c33_16 : P33 [1,1,1,0,1] = .cond (.tmp 22) (P33 [1,1,1,0,1,0]) (P33 [1,1,1,0,1,1]) := by kernel_rfl
theorem k33_17 : P33 [1,1,1,0,1,0] = .seq (P33 [1,1,1,0,1,0,0]) (P33 [1,1,1,0,1,0,1]) := by kernel_rfl
theorem k33_18 : P33 [1,1,1,0,1,0,0] = .region 5 (O33 [1,1,1,0,1,0,0]) true ∧ drawOk (O33 [1,1,1,0,1,0,0]) = true := ⟨by kernel_rfl, by kernel_rfl⟩
theorem r33_5 {Ax1 : Option Addr} {lx1 cx1 : Nat} {M : Mem} {call : CallM} {K : Array Value → Mem → R} :
    opsI Try.prog (callAt call (O33 [1,1,1,0,1,0,0])) (O33 [1,1,1,0,1,0,0]) (ordOf (O33 [1,1,1,0,1,0,0])) [] #[g0,.slice Ax1 lx1 cx1,g2,g3,g4,g5,g6,g7,g8,g9,gA,gB,gC,gD,gE,gF,gG,gH,gI,gJ,gK,gL,gM,gN,gO,gP,gQ,gR,gS,gT,gU,gV,gW,gX,gY,gZ,hA,hB,hC,hD,hE,hF,hG,hH,hI,hJ,hK,hL,hM,hN,hO,hP,hQ,hR,hS,hT,hU,hV,hW,hX,hY,hZ,h0,h1,h2,h3,h4,h5,h6,h7,h8,h9,jA,jB,jC,jD,jE] M K = (idxA Ax1 lx1 1 0).bind fun a_1 => (M.intAt .i64 a_1.block a_1.off).bind fun x_2 => (idxA Ax1 lx1 1 1).bind fun a_3 => (M.intAt .i64 a_3.block a_3.off).bind fun x_4 => (idxA Ax1 lx1 1 2).bind fun a_5 => (M.intAt .i64 a_5.block a_5.off).bind fun x_6 => (idxA Ax1 lx1 1 3).bind fun a_7 => (M.intAt .i64 a_7.block a_7.off).bind fun x_8 => (call 53 #[.int .i64 x_2, .int .i64 x_4, .int .i64 x_6, .int .i64 x_8] M).bind fun r_9 => (asS r_9.1).bind fun s_10 => K #[g0,.slice Ax1 lx1 cx1,g2,g3,.slice s_10.1 (s_10.2.1) (s_10.2.2),.int .i64 0,g6,g7,g8,g9,gA,gB,gC,gD,gE,gF,gG,gH,gI,gJ,gK,gL,gM,.slice Ax1 lx1 cx1,.pointer (some a_1),.int .i64 x_2,.slice Ax1 lx1 cx1,.pointer (some a_3),.int .i64 x_4,.slice Ax1 lx1 cx1,.pointer (some a_5),.int .i64 x_6,.slice Ax1 lx1 cx1,.pointer (some a_7),.int .i64 x_8,.slice s_10.1 (s_10.2.1) (s_10.2.2),hA,hB,hC,hD,hE,hF,hG,hH,hI,hJ,hK,hL,hM,hN,hO,hP,hQ,hR,hS,hT,hU,hV,hW,hX,hY,hZ,h0,h1,h2,h3,h4,h5,h6,h7,h8,h9,jA,jB,jC,jD,jE] r_9.2 := by kernel_rfl
theorem k33_19 : P33 [1,1,1,0,1,0,1] = .ret := by kernel_rfl
theorem k33_20 : P33 [1,1,1,0,1,1] = .skip := by kernel_rfl
theorem k33_21 : P33 [1,1,1,1] = .seq (P33 [1,1,1,1,0]) (P33 [1,1,1,1,1]) := by kernel_rfl
theorem k33_22 : P33 [1,1,1,1,0] = .region 6 (O33 [1,1,1,1,0]) false := by kernel_rfl
theorem r33_6 {Ax1 : Option Addr} {lx1 cx1 : Nat} {M : Mem} {call : CallM} {K : Array Value → Mem → R} :
    opsK Try.prog (fun _ => call) (O33 [1,1,1,1,0]) (O33 [1,1,1,1,0]).toList 0 #[g0,.slice Ax1 lx1 cx1,g2,g3,g4,g5,g6,g7,g8,g9,gA,gB,gC,gD,gE,gF,gG,gH,gI,gJ,gK,gL,gM,gN,gO,gP,gQ,gR,gS,gT,gU,gV,gW,gX,gY,gZ,hA,hB,hC,hD,hE,hF,hG,hH,hI,hJ,hK,hL,hM,hN,hO,hP,hQ,hR,hS,hT,hU,hV,hW,hX,hY,hZ,h0,h1,h2,h3,h4,h5,h6,h7,h8,h9,jA,jB,jC,jD,jE] M K = (makeP Try.prog 22 (.int .i64 ((lx1 : Int))) (.int .i64 ((lx1 : Int))) M).bind fun r_1 => (asS r_1.1).bind fun s_2 => K #[g0,.slice Ax1 lx1 cx1,g2,g3,g4,g5,g6,g7,.slice s_2.1 (s_2.2.1) (s_2.2.2),g9,gA,gB,gC,gD,gE,gF,gG,gH,gI,gJ,gK,gL,gM,gN,gO,gP,gQ,gR,gS,gT,gU,gV,gW,gX,gY,gZ,.slice Ax1 lx1 cx1,.int .i64 ((lx1 : Int)),.slice s_2.1 (s_2.2.1) (s_2.2.2),hD,hE,hF,hG,hH,hI,hJ,hK,hL,hM,hN,hO,hP,hQ,hR,hS,hT,hU,hV,hW,hX,hY,hZ,h0,h1,h2,h3,h4,h5,h6,h7,h8,h9,jA,jB,jC,jD,jE] r_1.2 := by kernel_rfl
theorem k33_23 : P33 [1,1,1,1,1] = .seq (P33 [1,1,1,1,1,0]) (P33 [1,1,1,1,1,1]) := by kernel_rfl
theorem k33_24 : P33 [1,1,1,1,1,0] = .seq (P33 [1,1,1,1,1,0,0]) (P33 [1,1,1,1,1,0,1]) := by kernel_rfl
theorem k33_25 : P33 [1,1,1,1,1,0,0] = .region 7 (O33 [1,1,1,1,1,0,0]) false := by kernel_rfl
theorem r33_7 {Ax8 : Option Addr} {lx8 cx8 : Nat} {M : Mem} {call : CallM} {K : Array Value → Mem → R} :
    opsK Try.prog (fun _ => call) (O33 [1,1,1,1,1,0,0]) (O33 [1,1,1,1,1,0,0]).toList 0 #[g0,g1,g2,g3,g4,g5,g6,g7,.slice Ax8 lx8 cx8,g9,gA,gB,gC,gD,gE,gF,gG,gH,gI,gJ,gK,gL,gM,gN,gO,gP,gQ,gR,gS,gT,gU,gV,gW,gX,gY,gZ,hA,hB,hC,hD,hE,hF,hG,hH,hI,hJ,hK,hL,hM,hN,hO,hP,hQ,hR,hS,hT,hU,hV,hW,hX,hY,hZ,h0,h1,h2,h3,h4,h5,h6,h7,h8,h9,jA,jB,jC,jD,jE] M K = K #[g0,g1,g2,g3,g4,g5,g6,g7,.slice Ax8 lx8 cx8,g9,gA,gB,gC,gD,gE,gF,gG,gH,gI,gJ,gK,gL,gM,gN,gO,gP,gQ,gR,gS,gT,gU,gV,gW,gX,gY,gZ,hA,hB,hC,.slice Ax8 lx8 cx8,.int .i64 ((lx8 : Int)),.int .i64 0,hG,hH,hI,hJ,hK,hL,hM,hN,hO,hP,hQ,hR,hS,hT,hU,hV,hW,hX,hY,hZ,h0,h1,h2,h3,h4,h5,h6,h7,h8,h9,jA,jB,jC,jD,jE] M := by kernel_rfl
theorem k33_26 : P33 [1,1,1,1,1,0,1] = .block 0 (P33 [1,1,1,1,1,0,1,0]) := by kernel_rfl
theorem k33_27 : P33 [1,1,1,1,1,0,1,0] = .loop (P33 [1,1,1,1,1,0,1,0,0]) := by kernel_rfl
theorem k33_28 : P33 [1,1,1,1,1,0,1,0,0] = .seq (P33 [1,1,1,1,1,0,1,0,0,0]) (P33 [1,1,1,1,1,0,1,0,0,1]) := by kernel_rfl
theorem k33_29 : P33 [1,1,1,1,1,0,1,0,0,0] = .region 8 (O33 [1,1,1,1,1,0,1,0,0,0]) false := by kernel_rfl
theorem r33_8 {x40 x41 : Int} {M : Mem} {call : CallM} {K : Array Value → Mem → R} :
    opsK Try.prog (fun _ => call) (O33 [1,1,1,1,1,0,1,0,0,0]) (O33 [1,1,1,1,1,0,1,0,0,0]).toList 0 #[g0,g1,g2,g3,g4,g5,g6,g7,g8,g9,gA,gB,gC,gD,gE,gF,gG,gH,gI,gJ,gK,gL,gM,gN,gO,gP,gQ,gR,gS,gT,gU,gV,gW,gX,gY,gZ,hA,hB,hC,hD,.int .i64 x40,.int .i64 x41,hG,hH,hI,hJ,hK,hL,hM,hN,hO,hP,hQ,hR,hS,hT,hU,hV,hW,hX,hY,hZ,h0,h1,h2,h3,h4,h5,h6,h7,h8,h9,jA,jB,jC,jD,jE] M K = K #[g0,g1,g2,g3,g4,g5,g6,g7,g8,g9,gA,gB,gC,gD,gE,gF,gG,gH,gI,gJ,gK,gL,gM,gN,gO,gP,gQ,gR,gS,gT,gU,gV,gW,gX,gY,gZ,hA,hB,hC,hD,.int .i64 x40,.int .i64 x41,.bool (decide (x41 < x40)),hH,hI,hJ,hK,hL,hM,hN,hO,hP,hQ,hR,hS,hT,hU,hV,hW,hX,hY,hZ,h0,h1,h2,h3,h4,h5,h6,h7,h8,h9,jA,jB,jC,jD,jE] M := by kernel_rfl
theorem k33_30 : P33 [1,1,1,1,1,0,1,0,0,1] = .seq (P33 [1,1,1,1,1,0,1,0,0,1,0]) (P33 [1,1,1,1,1,0,1,0,0,1,1]) := by kernel_rfl
theorem c33_31 : P33 [1,1,1,1,1,0,1,0,0,1,0] = .cond (.tmp 42) (P33 [1,1,1,1,1,0,1,0,0,1,0,0]) (P33 [1,1,1,1,1,0,1,0,0,1,0,1]) := by kernel_rfl
theorem k33_32 : P33 [1,1,1,1,1,0,1,0,0,1,0,0] = .skip := by kernel_rfl
theorem k33_33 : P33 [1,1,1,1,1,0,1,0,0,1,1] = .seq (P33 [1,1,1,1,1,0,1,0,0,1,1,0]) (P33 [1,1,1,1,1,0,1,0,0,1,1,1]) := by kernel_rfl
theorem k33_34 : P33 [1,1,1,1,1,0,1,0,0,1,1,0] = .block 1 (P33 [1,1,1,1,1,0,1,0,0,1,1,0,0]) := by kernel_rfl
theorem k33_35 : P33 [1,1,1,1,1,0,1,0,0,1,1,0,0] = .seq (P33 [1,1,1,1,1,0,1,0,0,1,1,0,0,0]) (P33 [1,1,1,1,1,0,1,0,0,1,1,0,0,1]) := by kernel_rfl
theorem k33_36 : P33 [1,1,1,1,1,0,1,0,0,1,1,0,0,0] = .region 9 (O33 [1,1,1,1,1,0,1,0,0,1,1,0,0,0]) false := by kernel_rfl
theorem r33_9 {x41 : Int} {M : Mem} {call : CallM} {K : Array Value → Mem → R} :
    opsK Try.prog (fun _ => call) (O33 [1,1,1,1,1,0,1,0,0,1,1,0,0,0]) (O33 [1,1,1,1,1,0,1,0,0,1,1,0,0,0]).toList 0 #[g0,g1,g2,g3,g4,g5,g6,g7,g8,g9,gA,gB,gC,gD,gE,gF,gG,gH,gI,gJ,gK,gL,gM,gN,gO,gP,gQ,gR,gS,gT,gU,gV,gW,gX,gY,gZ,hA,hB,hC,hD,hE,.int .i64 x41,hG,hH,hI,hJ,hK,hL,hM,hN,hO,hP,hQ,hR,hS,hT,hU,hV,hW,hX,hY,hZ,h0,h1,h2,h3,h4,h5,h6,h7,h8,h9,jA,jB,jC,jD,jE] M K = K #[g0,g1,g2,g3,g4,g5,g6,g7,g8,.int .i64 x41,gA,gB,gC,gD,gE,gF,gG,gH,gI,gJ,gK,gL,gM,gN,gO,gP,gQ,gR,gS,gT,gU,gV,gW,gX,gY,gZ,hA,hB,hC,hD,hE,.int .i64 x41,hG,.int .i64 x41,hI,hJ,hK,hL,hM,hN,hO,hP,hQ,hR,hS,hT,hU,hV,hW,hX,hY,hZ,h0,h1,h2,h3,h4,h5,h6,h7,h8,h9,jA,jB,jC,jD,jE] M := by kernel_rfl
theorem k33_37 : P33 [1,1,1,1,1,0,1,0,0,1,1,0,0,1] = .seq (P33 [1,1,1,1,1,0,1,0,0,1,1,0,0,1,0]) (P33 [1,1,1,1,1,0,1,0,0,1,1,0,0,1,1]) := by kernel_rfl
theorem k33_38 : P33 [1,1,1,1,1,0,1,0,0,1,1,0,0,1,0] = .seq (P33 [1,1,1,1,1,0,1,0,0,1,1,0,0,1,0,0]) (P33 [1,1,1,1,1,0,1,0,0,1,1,0,0,1,0,1]) := by kernel_rfl
theorem k33_39 : P33 [1,1,1,1,1,0,1,0,0,1,1,0,0,1,0,0] = .region 10 (O33 [1,1,1,1,1,0,1,0,0,1,1,0,0,1,0,0]) false := by kernel_rfl
theorem r33_10 {Ax1 : Option Addr} {lx1 cx1 : Nat} {M : Mem} {call : CallM} {K : Array Value → Mem → R} :
    opsK Try.prog (fun _ => call) (O33 [1,1,1,1,1,0,1,0,0,1,1,0,0,1,0,0]) (O33 [1,1,1,1,1,0,1,0,0,1,1,0,0,1,0,0]).toList 0 #[g0,.slice Ax1 lx1 cx1,g2,g3,g4,g5,g6,g7,g8,g9,gA,gB,gC,gD,gE,gF,gG,gH,gI,gJ,gK,gL,gM,gN,gO,gP,gQ,gR,gS,gT,gU,gV,gW,gX,gY,gZ,hA,hB,hC,hD,hE,hF,hG,hH,hI,hJ,hK,hL,hM,hN,hO,hP,hQ,hR,hS,hT,hU,hV,hW,hX,hY,hZ,h0,h1,h2,h3,h4,h5,h6,h7,h8,h9,jA,jB,jC,jD,jE] M K = K #[g0,.slice Ax1 lx1 cx1,g2,g3,g4,g5,g6,g7,g8,g9,gA,gB,gC,gD,gE,gF,gG,gH,gI,gJ,gK,gL,gM,gN,gO,gP,gQ,gR,gS,gT,gU,gV,gW,gX,gY,gZ,hA,hB,hC,hD,hE,hF,hG,hH,.slice Ax1 lx1 cx1,.int .i64 ((lx1 : Int)),.int .i64 0,hL,hM,hN,hO,hP,hQ,hR,hS,hT,hU,hV,hW,hX,hY,hZ,h0,h1,h2,h3,h4,h5,h6,h7,h8,h9,jA,jB,jC,jD,jE] M := by kernel_rfl
theorem k33_40 : P33 [1,1,1,1,1,0,1,0,0,1,1,0,0,1,0,1] = .block 2 (P33 [1,1,1,1,1,0,1,0,0,1,1,0,0,1,0,1,0]) := by kernel_rfl
theorem k33_41 : P33 [1,1,1,1,1,0,1,0,0,1,1,0,0,1,0,1,0] = .loop (P33 [1,1,1,1,1,0,1,0,0,1,1,0,0,1,0,1,0,0]) := by kernel_rfl
theorem k33_42 : P33 [1,1,1,1,1,0,1,0,0,1,0,1] = .exit 0 := by kernel_rfl
theorem k33_43 : P33 [1,1,1,1,1,1] = .seq (P33 [1,1,1,1,1,1,0]) (P33 [1,1,1,1,1,1,1]) := by kernel_rfl
theorem k33_44 : P33 [1,1,1,1,1,1,0] = .region 18 (O33 [1,1,1,1,1,1,0]) false := by kernel_rfl
theorem r33_18 {Ax8 : Option Addr} {lx8 cx8 : Nat} {M : Mem} {call : CallM} {K : Array Value → Mem → R} :
    opsK Try.prog (fun _ => call) (O33 [1,1,1,1,1,1,0]) (O33 [1,1,1,1,1,1,0]).toList 0 #[g0,g1,g2,g3,g4,g5,g6,g7,.slice Ax8 lx8 cx8,g9,gA,gB,gC,gD,gE,gF,gG,gH,gI,gJ,gK,gL,gM,gN,gO,gP,gQ,gR,gS,gT,gU,gV,gW,gX,gY,gZ,hA,hB,hC,hD,hE,hF,hG,hH,hI,hJ,hK,hL,hM,hN,hO,hP,hQ,hR,hS,hT,hU,hV,hW,hX,hY,hZ,h0,h1,h2,h3,h4,h5,h6,h7,h8,h9,jA,jB,jC,jD,jE] M K = K #[g0,g1,g2,g3,.slice Ax8 lx8 cx8,.int .i64 0,g6,g7,.slice Ax8 lx8 cx8,g9,gA,gB,gC,gD,gE,gF,gG,gH,gI,gJ,gK,gL,gM,gN,gO,gP,gQ,gR,gS,gT,gU,gV,gW,gX,gY,gZ,hA,hB,hC,hD,hE,hF,hG,hH,hI,hJ,hK,hL,hM,hN,hO,hP,hQ,hR,hS,hT,hU,hV,hW,hX,hY,hZ,h0,h1,h2,h3,h4,h5,h6,h7,h8,h9,jA,jB,jC,jD,.slice Ax8 lx8 cx8] M := by kernel_rfl
theorem k33_45 : P33 [1,1,1,1,1,1,1] = .ret := by kernel_rfl
theorem k33_46 : P33 [1,1,1,1,1,0,1,0,0,1,1,0,0,1,0,1,0,0] = .seq (P33 [1,1,1,1,1,0,1,0,0,1,1,0,0,1,0,1,0,0,0]) (P33 [1,1,1,1,1,0,1,0,0,1,1,0,0,1,0,1,0,0,1]) := by kernel_rfl
theorem k33_47 : P33 [1,1,1,1,1,0,1,0,0,1,1,0,0,1,0,1,0,0,0] = .region 11 (O33 [1,1,1,1,1,0,1,0,0,1,1,0,0,1,0,1,0,0,0]) false := by kernel_rfl
theorem r33_11 {x45 x46 : Int} {M : Mem} {call : CallM} {K : Array Value → Mem → R} :
    opsK Try.prog (fun _ => call) (O33 [1,1,1,1,1,0,1,0,0,1,1,0,0,1,0,1,0,0,0]) (O33 [1,1,1,1,1,0,1,0,0,1,1,0,0,1,0,1,0,0,0]).toList 0 #[g0,g1,g2,g3,g4,g5,g6,g7,g8,g9,gA,gB,gC,gD,gE,gF,gG,gH,gI,gJ,gK,gL,gM,gN,gO,gP,gQ,gR,gS,gT,gU,gV,gW,gX,gY,gZ,hA,hB,hC,hD,hE,hF,hG,hH,hI,.int .i64 x45,.int .i64 x46,hL,hM,hN,hO,hP,hQ,hR,hS,hT,hU,hV,hW,hX,hY,hZ,h0,h1,h2,h3,h4,h5,h6,h7,h8,h9,jA,jB,jC,jD,jE] M K = K #[g0,g1,g2,g3,g4,g5,g6,g7,g8,g9,gA,gB,gC,gD,gE,gF,gG,gH,gI,gJ,gK,gL,gM,gN,gO,gP,gQ,gR,gS,gT,gU,gV,gW,gX,gY,gZ,hA,hB,hC,hD,hE,hF,hG,hH,hI,.int .i64 x45,.int .i64 x46,.bool (decide (x46 < x45)),hM,hN,hO,hP,hQ,hR,hS,hT,hU,hV,hW,hX,hY,hZ,h0,h1,h2,h3,h4,h5,h6,h7,h8,h9,jA,jB,jC,jD,jE] M := by kernel_rfl
theorem k33_48 : P33 [1,1,1,1,1,0,1,0,0,1,1,0,0,1,0,1,0,0,1] = .seq (P33 [1,1,1,1,1,0,1,0,0,1,1,0,0,1,0,1,0,0,1,0]) (P33 [1,1,1,1,1,0,1,0,0,1,1,0,0,1,0,1,0,0,1,1]) := by kernel_rfl
theorem c33_49 : P33 [1,1,1,1,1,0,1,0,0,1,1,0,0,1,0,1,0,0,1,0] = .cond (.tmp 47) (P33 [1,1,1,1,1,0,1,0,0,1,1,0,0,1,0,1,0,0,1,0,0]) (P33 [1,1,1,1,1,0,1,0,0,1,1,0,0,1,0,1,0,0,1,0,1]) := by kernel_rfl
theorem k33_50 : P33 [1,1,1,1,1,0,1,0,0,1,1,0,0,1,0,1,0,0,1,0,0] = .skip := by kernel_rfl
theorem k33_51 : P33 [1,1,1,1,1,0,1,0,0,1,1,0,0,1,0,1,0,0,1,1] = .seq (P33 [1,1,1,1,1,0,1,0,0,1,1,0,0,1,0,1,0,0,1,1,0]) (P33 [1,1,1,1,1,0,1,0,0,1,1,0,0,1,0,1,0,0,1,1,1]) := by kernel_rfl
theorem k33_52 : P33 [1,1,1,1,1,0,1,0,0,1,1,0,0,1,0,1,0,0,1,1,0] = .block 3 (P33 [1,1,1,1,1,0,1,0,0,1,1,0,0,1,0,1,0,0,1,1,0,0]) := by kernel_rfl
theorem k33_53 : P33 [1,1,1,1,1,0,1,0,0,1,1,0,0,1,0,1,0,0,1,1,0,0] = .seq (P33 [1,1,1,1,1,0,1,0,0,1,1,0,0,1,0,1,0,0,1,1,0,0,0]) (P33 [1,1,1,1,1,0,1,0,0,1,1,0,0,1,0,1,0,0,1,1,0,0,1]) := by kernel_rfl
theorem k33_54 : P33 [1,1,1,1,1,0,1,0,0,1,1,0,0,1,0,1,0,0,1,1,0,0,0] = .region 12 (O33 [1,1,1,1,1,0,1,0,0,1,1,0,0,1,0,1,0,0,1,1,0,0,0]) false := by kernel_rfl
theorem r33_12 {Ax44 : Option Addr} {lx44 cx44 : Nat} {x46 : Int} {M : Mem} {call : CallM} {K : Array Value → Mem → R} :
    opsK Try.prog (fun _ => call) (O33 [1,1,1,1,1,0,1,0,0,1,1,0,0,1,0,1,0,0,1,1,0,0,0]) (O33 [1,1,1,1,1,0,1,0,0,1,1,0,0,1,0,1,0,0,1,1,0,0,0]).toList 0 #[g0,g1,g2,g3,g4,g5,g6,g7,g8,g9,gA,gB,gC,gD,gE,gF,gG,gH,gI,gJ,gK,gL,gM,gN,gO,gP,gQ,gR,gS,gT,gU,gV,gW,gX,gY,gZ,hA,hB,hC,hD,hE,hF,hG,hH,.slice Ax44 lx44 cx44,hJ,.int .i64 x46,hL,hM,hN,hO,hP,hQ,hR,hS,hT,hU,hV,hW,hX,hY,hZ,h0,h1,h2,h3,h4,h5,h6,h7,h8,h9,jA,jB,jC,jD,jE] M K = (idxA Ax44 lx44 1 x46).bind fun a_1 => (M.intAt .i64 a_1.block a_1.off).bind fun x_2 => K #[g0,g1,g2,g3,g4,g5,g6,g7,g8,g9,.int .i64 x46,.int .i64 x_2,gC,gD,gE,gF,gG,gH,gI,gJ,gK,gL,gM,gN,gO,gP,gQ,gR,gS,gT,gU,gV,gW,gX,gY,gZ,hA,hB,hC,hD,hE,hF,hG,hH,.slice Ax44 lx44 cx44,hJ,.int .i64 x46,hL,.int .i64 x46,.pointer (some a_1),.int .i64 x_2,hP,hQ,hR,hS,hT,hU,hV,hW,hX,hY,hZ,h0,h1,h2,h3,h4,h5,h6,h7,h8,h9,jA,jB,jC,jD,jE] M := by kernel_rfl
theorem k33_55 : P33 [1,1,1,1,1,0,1,0,0,1,1,0,0,1,0,1,0,0,1,1,0,0,1] = .seq (P33 [1,1,1,1,1,0,1,0,0,1,1,0,0,1,0,1,0,0,1,1,0,0,1,0]) (P33 [1,1,1,1,1,0,1,0,0,1,1,0,0,1,0,1,0,0,1,1,0,0,1,1]) := by kernel_rfl
theorem k33_56 : P33 [1,1,1,1,1,0,1,0,0,1,1,0,0,1,0,1,0,0,1,1,0,0,1,0] = .region 13 (O33 [1,1,1,1,1,0,1,0,0,1,1,0,0,1,0,1,0,0,1,1,0,0,1,0]) false := by kernel_rfl
theorem r33_13 {x11 : Int} {M : Mem} {call : CallM} {K : Array Value → Mem → R} :
    opsK Try.prog (fun _ => call) (O33 [1,1,1,1,1,0,1,0,0,1,1,0,0,1,0,1,0,0,1,1,0,0,1,0]) (O33 [1,1,1,1,1,0,1,0,0,1,1,0,0,1,0,1,0,0,1,1,0,0,1,0]).toList 0 #[g0,g1,g2,g3,g4,g5,g6,g7,g8,g9,gA,.int .i64 x11,gC,gD,gE,gF,gG,gH,gI,gJ,gK,gL,gM,gN,gO,gP,gQ,gR,gS,gT,gU,gV,gW,gX,gY,gZ,hA,hB,hC,hD,hE,hF,hG,hH,hI,hJ,hK,hL,hM,hN,hO,hP,hQ,hR,hS,hT,hU,hV,hW,hX,hY,hZ,h0,h1,h2,h3,h4,h5,h6,h7,h8,h9,jA,jB,jC,jD,jE] M K = K #[g0,g1,g2,g3,g4,g5,g6,g7,g8,g9,gA,.int .i64 x11,gC,gD,gE,gF,gG,gH,gI,gJ,gK,gL,gM,gN,gO,gP,gQ,gR,gS,gT,gU,gV,gW,gX,gY,gZ,hA,hB,hC,hD,hE,hF,hG,hH,hI,hJ,hK,hL,hM,hN,hO,.int .i64 x11,.bool (x11 != 0),hR,hS,hT,hU,hV,hW,hX,hY,hZ,h0,h1,h2,h3,h4,h5,h6,h7,h8,h9,jA,jB,jC,jD,jE] M := by kernel_rfl
theorem c33_57 : P33 [1,1,1,1,1,0,1,0,0,1,1,0,0,1,0,1,0,0,1,1,0,0,1,1] = .cond (.tmp 52) (P33 [1,1,1,1,1,0,1,0,0,1,1,0,0,1,0,1,0,0,1,1,0,0,1,1,0]) (P33 [1,1,1,1,1,0,1,0,0,1,1,0,0,1,0,1,0,0,1,1,0,0,1,1,1]) := by kernel_rfl
theorem k33_58 : P33 [1,1,1,1,1,0,1,0,0,1,1,0,0,1,0,1,0,0,1,1,0,0,1,1,0] = .region 14 (O33 [1,1,1,1,1,0,1,0,0,1,1,0,0,1,0,1,0,0,1,1,0,0,1,1,0]) true ∧ drawOk (O33 [1,1,1,1,1,0,1,0,0,1,1,0,0,1,0,1,0,0,1,1,0,0,1,1,0]) = true := ⟨by kernel_rfl, by kernel_rfl⟩
theorem r33_14 {x6 Ax8 : Option Addr} {lx8 cx8 : Nat} {x9 x10 x11 : Int} {M : Mem} {call : CallM} {K : Array Value → Mem → R} :
    opsI Try.prog (callAt call (O33 [1,1,1,1,1,0,1,0,0,1,1,0,0,1,0,1,0,0,1,1,0,0,1,1,0])) (O33 [1,1,1,1,1,0,1,0,0,1,1,0,0,1,0,1,0,0,1,1,0,0,1,1,0]) (ordOf (O33 [1,1,1,1,1,0,1,0,0,1,1,0,0,1,0,1,0,0,1,1,0,0,1,1,0])) [] #[g0,g1,g2,g3,g4,g5,.pointer x6,g7,.slice Ax8 lx8 cx8,.int .i64 x9,.int .i64 x10,.int .i64 x11,gC,gD,gE,gF,gG,gH,gI,gJ,gK,gL,gM,gN,gO,gP,gQ,gR,gS,gT,gU,gV,gW,gX,gY,gZ,hA,hB,hC,hD,hE,hF,hG,hH,hI,hJ,hK,hL,hM,hN,hO,hP,hQ,hR,hS,hT,hU,hV,hW,hX,hY,hZ,h0,h1,h2,h3,h4,h5,h6,h7,h8,h9,jA,jB,jC,jD,jE] M K = (idxA Ax8 lx8 1 x9).bind fun a_1 => (M.intAt .i64 a_1.block a_1.off).bind fun x_2 => (x6).bind fun a_3 => (M.cell a_3.block (a_3.off + 1)).bind fun v_4 => (callVal Try.prog v_4 #[.int .i64 x10, .int .i64 x9]).bind fun q_6 => (floored call q_6.1 q_6.2 M).bind fun r_5 => (asI .i64 r_5.1).bind fun x_7 => (idxA Ax8 lx8 1 x9).bind fun a_8 => (r_5.2.put a_8.block a_8.off (.int .i64 (IntKind.i64.wrap (x_2 + (IntKind.i64.wrap (x11 * x_7)))))).bind fun M_9 => K #[g0,g1,g2,g3,g4,g5,.pointer x6,g7,.slice Ax8 lx8 cx8,.int .i64 x9,.int .i64 x10,.int .i64 x11,gC,gD,gE,gF,gG,gH,gI,gJ,gK,gL,gM,gN,gO,gP,gQ,gR,gS,gT,gU,gV,gW,gX,gY,gZ,hA,hB,hC,hD,hE,hF,hG,hH,hI,hJ,hK,hL,hM,hN,hO,hP,hQ,.slice Ax8 lx8 cx8,.int .i64 x9,.pointer (some a_1),.int .i64 x_2,.int .i64 x11,.pointer (some ⟨a_3.block, a_3.off + 1, none⟩),v_4,.int .i64 x10,.int .i64 x9,.int .i64 x_7,.int .i64 (IntKind.i64.wrap (x11 * x_7)),.int .i64 (IntKind.i64.wrap (x_2 + (IntKind.i64.wrap (x11 * x_7)))),.pointer (some a_8),h4,h5,h6,h7,h8,h9,jA,jB,jC,jD,jE] M_9 := by kernel_rfl
theorem k33_59 : P33 [1,1,1,1,1,0,1,0,0,1,1,0,0,1,0,1,0,0,1,1,0,0,1,1,1] = .skip := by kernel_rfl
theorem k33_60 : P33 [1,1,1,1,1,0,1,0,0,1,1,0,0,1,0,1,0,0,1,0,1] = .exit 2 := by kernel_rfl
theorem k33_61 : P33 [1,1,1,1,1,0,1,0,0,1,1,0,0,1,1] = .region 16 (O33 [1,1,1,1,1,0,1,0,0,1,1,0,0,1,1]) false := by kernel_rfl
theorem r33_16 {Ax8 : Option Addr} {lx8 cx8 : Nat} {x9 : Int} {M : Mem} {call : CallM} {K : Array Value → Mem → R} :
    opsK Try.prog (fun _ => call) (O33 [1,1,1,1,1,0,1,0,0,1,1,0,0,1,1]) (O33 [1,1,1,1,1,0,1,0,0,1,1,0,0,1,1]).toList 0 #[g0,g1,g2,g3,g4,g5,g6,g7,.slice Ax8 lx8 cx8,.int .i64 x9,gA,gB,gC,gD,gE,gF,gG,gH,gI,gJ,gK,gL,gM,gN,gO,gP,gQ,gR,gS,gT,gU,gV,gW,gX,gY,gZ,hA,hB,hC,hD,hE,hF,hG,hH,hI,hJ,hK,hL,hM,hN,hO,hP,hQ,hR,hS,hT,hU,hV,hW,hX,hY,hZ,h0,h1,h2,h3,h4,h5,h6,h7,h8,h9,jA,jB,jC,jD,jE] M K = (idxA Ax8 lx8 1 x9).bind fun a_1 => (M.intAt .i64 a_1.block a_1.off).bind fun x_2 => (call 54 #[.int .i64 x_2] M).bind fun r_3 => (asI .i64 r_3.1).bind fun x_4 => (idxA Ax8 lx8 1 x9).bind fun a_5 => (r_3.2.put a_5.block a_5.off (.int .i64 x_4)).bind fun M_6 => K #[g0,g1,g2,g3,g4,g5,g6,g7,.slice Ax8 lx8 cx8,.int .i64 x9,gA,gB,gC,gD,gE,gF,gG,gH,gI,gJ,gK,gL,gM,gN,gO,gP,gQ,gR,gS,gT,gU,gV,gW,gX,gY,gZ,hA,hB,hC,hD,hE,hF,hG,hH,hI,hJ,hK,hL,hM,hN,hO,hP,hQ,hR,hS,hT,hU,hV,hW,hX,hY,hZ,h0,h1,h2,h3,h4,.slice Ax8 lx8 cx8,.int .i64 x9,.slice Ax8 lx8 cx8,.int .i64 x9,.pointer (some a_1),.int .i64 x_2,.int .i64 x_4,.pointer (some a_5),jD,jE] M_6 := by kernel_rfl
theorem k33_62 : P33 [1,1,1,1,1,0,1,0,0,1,1,1] = .region 17 (O33 [1,1,1,1,1,0,1,0,0,1,1,1]) false := by kernel_rfl
theorem r33_17 {x41 : Int} {M : Mem} {call : CallM} {K : Array Value → Mem → R} :
    opsK Try.prog (fun _ => call) (O33 [1,1,1,1,1,0,1,0,0,1,1,1]) (O33 [1,1,1,1,1,0,1,0,0,1,1,1]).toList 0 #[g0,g1,g2,g3,g4,g5,g6,g7,g8,g9,gA,gB,gC,gD,gE,gF,gG,gH,gI,gJ,gK,gL,gM,gN,gO,gP,gQ,gR,gS,gT,gU,gV,gW,gX,gY,gZ,hA,hB,hC,hD,hE,.int .i64 x41,hG,hH,hI,hJ,hK,hL,hM,hN,hO,hP,hQ,hR,hS,hT,hU,hV,hW,hX,hY,hZ,h0,h1,h2,h3,h4,h5,h6,h7,h8,h9,jA,jB,jC,jD,jE] M K = K #[g0,g1,g2,g3,g4,g5,g6,g7,g8,g9,gA,gB,gC,gD,gE,gF,gG,gH,gI,gJ,gK,gL,gM,gN,gO,gP,gQ,gR,gS,gT,gU,gV,gW,gX,gY,gZ,hA,hB,hC,hD,hE,.int .i64 (IntKind.i64.wrap (x41 + 1)),hG,hH,hI,hJ,hK,hL,hM,hN,hO,hP,hQ,hR,hS,hT,hU,hV,hW,hX,hY,hZ,h0,h1,h2,h3,h4,h5,h6,h7,h8,h9,jA,jB,jC,.int .i64 (IntKind.i64.wrap (x41 + 1)),jE] M := by kernel_rfl
theorem k33_63 : P33 [1,1,1,1,1,0,1,0,0,1,1,0,0,1,0,1,0,0,1,1,1] = .region 15 (O33 [1,1,1,1,1,0,1,0,0,1,1,0,0,1,0,1,0,0,1,1,1]) false := by kernel_rfl
theorem r33_15 {x46 : Int} {M : Mem} {call : CallM} {K : Array Value → Mem → R} :
    opsK Try.prog (fun _ => call) (O33 [1,1,1,1,1,0,1,0,0,1,1,0,0,1,0,1,0,0,1,1,1]) (O33 [1,1,1,1,1,0,1,0,0,1,1,0,0,1,0,1,0,0,1,1,1]).toList 0 #[g0,g1,g2,g3,g4,g5,g6,g7,g8,g9,gA,gB,gC,gD,gE,gF,gG,gH,gI,gJ,gK,gL,gM,gN,gO,gP,gQ,gR,gS,gT,gU,gV,gW,gX,gY,gZ,hA,hB,hC,hD,hE,hF,hG,hH,hI,hJ,.int .i64 x46,hL,hM,hN,hO,hP,hQ,hR,hS,hT,hU,hV,hW,hX,hY,hZ,h0,h1,h2,h3,h4,h5,h6,h7,h8,h9,jA,jB,jC,jD,jE] M K = K #[g0,g1,g2,g3,g4,g5,g6,g7,g8,g9,gA,gB,gC,gD,gE,gF,gG,gH,gI,gJ,gK,gL,gM,gN,gO,gP,gQ,gR,gS,gT,gU,gV,gW,gX,gY,gZ,hA,hB,hC,hD,hE,hF,hG,hH,hI,hJ,.int .i64 (IntKind.i64.wrap (x46 + 1)),hL,hM,hN,hO,hP,hQ,hR,hS,hT,hU,hV,hW,hX,hY,hZ,h0,h1,h2,h3,.int .i64 (IntKind.i64.wrap (x46 + 1)),h5,h6,h7,h8,h9,jA,jB,jC,jD,jE] M := by kernel_rfl
noncomputable def S33_1 : List Item := [.code (P33 [1,1,1,1,1,0,1,0,0]), .inLoop (P33 [1,1,1,1,1,0,1,0,0]), .inBlock 0, .code (P33 [1,1,1,1,1,1])]
def A33_1 (Ax1 : Option Addr) (lx1 cx1 : Nat) (x6 Ax8 : Option Addr) (lx8 cx8 : Nat) (x40 x41 : Int) (M : Mem) (Q : Value → Mem → Prop) : Prop := ∀ (g0 g2 g3 g4 g5 g7 g9 gA gB gC gD gE gF gG gH gI gJ gK gL gM gN gO gP gQ gR gS gT gU gV gW gX gY gZ hA hB hC hD hG hH hI hJ hK hL hM hN hO hP hQ hR hS hT hU hV hW hX hY hZ h0 h1 h2 h3 h4 h5 h6 h7 h8 h9 jA jB jC jD jE : Value), Rn Try.prog Try.f33 S33_1 #[g0, .slice Ax1 lx1 cx1, g2, g3, g4, g5, .pointer x6, g7, .slice Ax8 lx8 cx8, g9, gA, gB, gC, gD, gE, gF, gG, gH, gI, gJ, gK, gL, gM, gN, gO, gP, gQ, gR, gS, gT, gU, gV, gW, gX, gY, gZ, hA, hB, hC, hD, .int .i64 x40, .int .i64 x41, hG, hH, hI, hJ, hK, hL, hM, hN, hO, hP, hQ, hR, hS, hT, hU, hV, hW, hX, hY, hZ, h0, h1, h2, h3, h4, h5, h6, h7, h8, h9, jA, jB, jC, jD, jE] M Q
noncomputable def S33_2 : List Item := [.code (P33 [1,1,1,1,1,0,1,0,0,1,1,0,0,1,0,1,0,0]), .inLoop (P33 [1,1,1,1,1,0,1,0,0,1,1,0,0,1,0,1,0,0]), .inBlock 2, .code (P33 [1,1,1,1,1,0,1,0,0,1,1,0,0,1,1]), .inBlock 1, .code (P33 [1,1,1,1,1,0,1,0,0,1,1,1]), .inLoop (P33 [1,1,1,1,1,0,1,0,0]), .inBlock 0, .code (P33 [1,1,1,1,1,1])]
def A33_2 (Ax1 : Option Addr) (lx1 cx1 : Nat) (x6 Ax8 : Option Addr) (lx8 cx8 : Nat) (x9 x40 x41 : Int) (Ax44 : Option Addr) (lx44 cx44 : Nat) (x45 x46 : Int) (M : Mem) (Q : Value → Mem → Prop) : Prop := ∀ (g0 g2 g3 g4 g5 g7 gA gB gC gD gE gF gG gH gI gJ gK gL gM gN gO gP gQ gR gS gT gU gV gW gX gY gZ hA hB hC hD hG hH hL hM hN hO hP hQ hR hS hT hU hV hW hX hY hZ h0 h1 h2 h3 h4 h5 h6 h7 h8 h9 jA jB jC jD jE : Value), Rn Try.prog Try.f33 S33_2 #[g0, .slice Ax1 lx1 cx1, g2, g3, g4, g5, .pointer x6, g7, .slice Ax8 lx8 cx8, .int .i64 x9, gA, gB, gC, gD, gE, gF, gG, gH, gI, gJ, gK, gL, gM, gN, gO, gP, gQ, gR, gS, gT, gU, gV, gW, gX, gY, gZ, hA, hB, hC, hD, .int .i64 x40, .int .i64 x41, hG, hH, .slice Ax44 lx44 cx44, .int .i64 x45, .int .i64 x46, hL, hM, hN, hO, hP, hQ, hR, hS, hT, hU, hV, hW, hX, hY, hZ, h0, h1, h2, h3, h4, h5, h6, h7, h8, h9, jA, jB, jC, jD, jE] M Q
noncomputable def S33_3 : List Item := [.code (P33 [1,1,1,1,1,0,1,0,0,1,1,0,0,1,0,1,0,0,1,1,1]), .inLoop (P33 [1,1,1,1,1,0,1,0,0,1,1,0,0,1,0,1,0,0]), .inBlock 2, .code (P33 [1,1,1,1,1,0,1,0,0,1,1,0,0,1,1]), .inBlock 1, .code (P33 [1,1,1,1,1,0,1,0,0,1,1,1]), .inLoop (P33 [1,1,1,1,1,0,1,0,0]), .inBlock 0, .code (P33 [1,1,1,1,1,1])]
def A33_3 (Ax1 : Option Addr) (lx1 cx1 : Nat) (x6 Ax8 : Option Addr) (lx8 cx8 : Nat) (x9 x40 x41 : Int) (Ax44 : Option Addr) (lx44 cx44 : Nat) (x45 x46 : Int) (M : Mem) (Q : Value → Mem → Prop) : Prop := ∀ (g0 g2 g3 g4 g5 g7 gA gB gC gD gE gF gG gH gI gJ gK gL gM gN gO gP gQ gR gS gT gU gV gW gX gY gZ hA hB hC hD hG hH hL hM hN hO hP hQ hR hS hT hU hV hW hX hY hZ h0 h1 h2 h3 h4 h5 h6 h7 h8 h9 jA jB jC jD jE : Value), Rn Try.prog Try.f33 S33_3 #[g0, .slice Ax1 lx1 cx1, g2, g3, g4, g5, .pointer x6, g7, .slice Ax8 lx8 cx8, .int .i64 x9, gA, gB, gC, gD, gE, gF, gG, gH, gI, gJ, gK, gL, gM, gN, gO, gP, gQ, gR, gS, gT, gU, gV, gW, gX, gY, gZ, hA, hB, hC, hD, .int .i64 x40, .int .i64 x41, hG, hH, .slice Ax44 lx44 cx44, .int .i64 x45, .int .i64 x46, hL, hM, hN, hO, hP, hQ, hR, hS, hT, hU, hV, hW, hX, hY, hZ, h0, h1, h2, h3, h4, h5, h6, h7, h8, h9, jA, jB, jC, jD, jE] M Q
theorem w33_0 {x0 : Int} {Ax1 : Option Addr} {lx1 cx1 : Nat} {M : Mem} {Q : Value → Mem → Prop} (H :
    Cn Try.prog 52 #[.int .i64 x0, .slice Ax1 lx1 cx1] M fun v1' N1' =>
     ∃ cs2', asU 2 v1' = some cs2' ∧
     ∃ cs3', asA 2 (cs2'.getD 0 undef) = some cs3' ∧
     ∃ x4', asI .i64 (cs3'.getD 0 undef) = some x4' ∧
     ∃ b5', asB (cs2'.getD 1 undef) = some b5' ∧
     ∃ M6', (N1'.new (.cells #[.int .i64 0, .nilFunc] 54)).put (2 * N1'.nb.size) 0 (.int .i64 x4') = some M6' ∧
     ∃ M7', M6'.put (2 * N1'.nb.size) 1 (cs3'.getD 1 undef) = some M7' ∧
     (((!b5') = true →
      Q (.tuple #[.slice none 0 0, .int .i64 2]) M7') ∧
      ((!b5') = false →
      ∃ v8', M7'.cell (2 * N1'.nb.size) (0 + 1) = some v8' ∧
      ∃ b9', fnilV Try.prog 33 v8' = some b9' ∧
      ((b9' = true →
       ∃ a10', idxA Ax1 lx1 1 0 = some a10' ∧
       ∃ x11', M7'.intAt .i64 a10'.block a10'.off = some x11' ∧
       ∃ a12', idxA Ax1 lx1 1 1 = some a12' ∧
       ∃ x13', M7'.intAt .i64 a12'.block a12'.off = some x13' ∧
       ∃ a14', idxA Ax1 lx1 1 2 = some a14' ∧
       ∃ x15', M7'.intAt .i64 a14'.block a14'.off = some x15' ∧
       ∃ a16', idxA Ax1 lx1 1 3 = some a16' ∧
       ∃ x17', M7'.intAt .i64 a16'.block a16'.off = some x17' ∧
       Cn Try.prog 53 #[.int .i64 x11', .int .i64 x13', .int .i64 x15', .int .i64 x17'] M7' fun v18' N18' =>
        ∃ s19', asS v18' = some s19' ∧
        Q (.tuple #[.slice s19'.1 (s19'.2.1) (s19'.2.2), .int .i64 0]) N18') ∧
       (b9' = false →
       ∃ r20', makeP Try.prog 22 (.int .i64 ((lx1 : Int))) (.int .i64 ((lx1 : Int))) M7' = some r20' ∧
       ∃ s21', asS r20'.1 = some s21' ∧
       A33_1 Ax1 lx1 cx1 (some ⟨2 * N1'.nb.size, 0, none⟩) s21'.1 s21'.2.1 s21'.2.2 (s21'.2.1 : Int) 0 r20'.2 Q))))) :
    Cn Try.prog 33 #[.int .i64 x0, .slice Ax1 lx1 cx1] M Q := by
  refine Cn.of b33 d33 t33 ?_
  refine Rn.seq k33_0 (Rn.region k33_1 (fun call K => r33_0) (Rch.leaf (Rn.seq k33_2 (Rn.region k33_3 (fun call K => r33_1) (Rch.call H fun v1' N1' H => Rch.ex H fun cs2' H => Rch.ex H fun cs3' H => Rch.ex H fun x4' H => Rch.ex H fun b5' H => Rch.ex H fun M6' H => Rch.ex H fun M7' H => ?_)))))
  refine Rch.leaf (Rn.seq k33_4 (Rn.seq k33_5 (Rn.region k33_6 (fun call K => r33_2) (Rch.leaf ?_))))
  refine Rn.cnd (v := !b5') ⟨c33_7, rfl, by kernel_rfl⟩ (fun h => ?_) (fun h => ?_)
  · replace H := H.1 (h)
    refine Rn.seq k33_8 (Rn.region k33_9 (fun call K => r33_3) (Rch.leaf ?_))
    exact Rn.ret k33_10 e33 H
  · replace H := H.2 (h)
    refine Rn.skip k33_12 (Rn.seq k33_13 (Rn.seq k33_14 (Rn.region k33_15 (fun call K => r33_4) (Rch.bind (x := ⟨2 * N1'.nb.size, 0, none⟩) rfl (Rch.ex H fun v8' H => Rch.ex H fun b9' H => Rch.leaf ?_)))))
    refine Rn.cnd (v := b9') ⟨c33_16, rfl, by kernel_rfl⟩ (fun h => ?_) (fun h => ?_)
    · replace H := H.1 (h)
      refine Rn.seq k33_17 (Rn.regionD k33_18 (fun call K => r33_5) (Rch.ex H fun a10' H => Rch.ex H fun x11' H => Rch.ex H fun a12' H => Rch.ex H fun x13' H => Rch.ex H fun a14' H => Rch.ex H fun x15' H => Rch.ex H fun a16' H => Rch.ex H fun x17' H => Rch.call H fun v18' N18' H => Rch.ex H fun s19' H => ?_))
      refine Rch.leaf ?_
      exact Rn.ret k33_19 e33 H
    · replace H := H.2 (h)
      refine Rn.skip k33_20 (Rn.seq k33_21 (Rn.region k33_22 (fun call K => r33_6) (Rch.ex H fun r20' H => Rch.ex H fun s21' H => Rch.leaf (Rn.seq k33_23 (Rn.seq k33_24 (Rn.region k33_25 (fun call K => r33_7) (Rch.leaf (Rn.block k33_26 (Rn.loop k33_27 ?_)))))))))
      exact H _ _ _ _ _ _ _ _ _ _ _ _ _ _ _ _ _ _ _ _ _ _ _ _ _ _ _ _ _ _ _ _ _ _ _ _ _ _ _ _ _ _ _ _ _ _ _ _ _ _ _ _ _ _ _ _ _ _ _ _ _ _ _ _ _ _ _ _ _ _ _ _

theorem w33_1 {Ax1 : Option Addr} {lx1 cx1 : Nat} {x6 Ax8 : Option Addr} {lx8 cx8 : Nat} {x40 x41 : Int} {M : Mem} {Q : Value → Mem → Prop} (H :
    ((x41 < x40 →
     A33_2 Ax1 lx1 cx1 x6 Ax8 lx8 cx8 x41 x40 x41 Ax1 lx1 cx1 (lx1 : Int) 0 M Q) ∧
     (¬ (x41 < x40) →
     Q (.tuple #[.slice Ax8 lx8 cx8, .int .i64 0]) M))) :
    A33_1 Ax1 lx1 cx1 x6 Ax8 lx8 cx8 x40 x41 M Q := by
  intro g0 g2 g3 g4 g5 g7 g9 gA gB gC gD gE gF gG gH gI gJ gK gL gM gN gO gP gQ gR gS gT gU gV gW gX gY gZ hA hB hC hD hG hH hI hJ hK hL hM hN hO hP hQ hR hS hT hU hV hW hX hY hZ h0 h1 h2 h3 h4 h5 h6 h7 h8 h9 jA jB jC jD jE
  refine Rn.seq k33_28 (Rn.region k33_29 (fun call K => r33_8) (Rch.leaf (Rn.seq k33_30 ?_)))
  refine Rn.cnd (v := decide (x41 < x40)) ⟨c33_31, rfl, by kernel_rfl⟩ (fun h => ?_) (fun h => ?_)
  · replace H := H.1 (of_decide_eq_true h)
    refine Rn.skip k33_32 (Rn.seq k33_33 (Rn.block k33_34 (Rn.seq k33_35 (Rn.region k33_36 (fun call K => r33_9) (Rch.leaf (Rn.seq k33_37 (Rn.seq k33_38 (Rn.region k33_39 (fun call K => r33_10) (Rch.leaf (Rn.block k33_40 (Rn.loop k33_41 ?_)))))))))))
    exact H _ _ _ _ _ _ _ _ _ _ _ _ _ _ _ _ _ _ _ _ _ _ _ _ _ _ _ _ _ _ _ _ _ _ _ _ _ _ _ _ _ _ _ _ _ _ _ _ _ _ _ _ _ _ _ _ _ _ _ _ _ _ _ _ _ _ _ _
  · replace H := H.2 (of_decide_eq_false h)
    refine Rn.exit k33_42 rfl (Rn.seq k33_43 (Rn.region k33_44 (fun call K => r33_18) (Rch.leaf ?_)))
    exact Rn.ret k33_45 e33 H

theorem w33_2 {Ax1 : Option Addr} {lx1 cx1 : Nat} {x6 Ax8 : Option Addr} {lx8 cx8 : Nat} {x9 x40 x41 : Int} {Ax44 : Option Addr} {lx44 cx44 : Nat} {x45 x46 : Int} {M : Mem} {Q : Value → Mem → Prop} (H :
    ((x46 < x45 →
     ∃ a22', idxA Ax44 lx44 1 x46 = some a22' ∧
     ∃ x23', M.intAt .i64 a22'.block a22'.off = some x23' ∧
     ((x23' ≠ 0 →
      ∃ a24', idxA Ax8 lx8 1 x9 = some a24' ∧
      ∃ x25', M.intAt .i64 a24'.block a24'.off = some x25' ∧
      ∃ a26', x6 = some a26' ∧
      ∃ v27', M.cell a26'.block (a26'.off + 1) = some v27' ∧
      ∃ q28', callVal Try.prog v27' #[.int .i64 x46, .int .i64 x9] = some q28' ∧
      Cn Try.prog q28'.1 q28'.2 { M with floor := M.nb.size } fun v29' N29' =>
       ∃ x30', asI .i64 v29' = some x30' ∧
       ∃ a31', idxA Ax8 lx8 1 x9 = some a31' ∧
       ∃ M32', { N29' with floor := M.floor }.put a31'.block a31'.off (.int .i64 (IntKind.i64.wrap (x25' + (IntKind.i64.wrap (x23' * x30'))))) = some M32' ∧
       A33_3 Ax1 lx1 cx1 x6 Ax8 lx8 cx8 x9 x40 x41 Ax44 lx44 cx44 x45 x46 M32' Q) ∧
      (x23' = 0 →
      A33_3 Ax1 lx1 cx1 x6 Ax8 lx8 cx8 x9 x40 x41 Ax44 lx44 cx44 x45 x46 M Q))) ∧
     (¬ (x46 < x45) →
     ∃ a33', idxA Ax8 lx8 1 x9 = some a33' ∧
     ∃ x34', M.intAt .i64 a33'.block a33'.off = some x34' ∧
     Cn Try.prog 54 #[.int .i64 x34'] M fun v35' N35' =>
      ∃ x36', asI .i64 v35' = some x36' ∧
      ∃ a37', idxA Ax8 lx8 1 x9 = some a37' ∧
      ∃ M38', N35'.put a37'.block a37'.off (.int .i64 x36') = some M38' ∧
      A33_1 Ax1 lx1 cx1 x6 Ax8 lx8 cx8 x40 (IntKind.i64.wrap (x41 + 1)) M38' Q))) :
    A33_2 Ax1 lx1 cx1 x6 Ax8 lx8 cx8 x9 x40 x41 Ax44 lx44 cx44 x45 x46 M Q := by
  intro g0 g2 g3 g4 g5 g7 gA gB gC gD gE gF gG gH gI gJ gK gL gM gN gO gP gQ gR gS gT gU gV gW gX gY gZ hA hB hC hD hG hH hL hM hN hO hP hQ hR hS hT hU hV hW hX hY hZ h0 h1 h2 h3 h4 h5 h6 h7 h8 h9 jA jB jC jD jE
  refine Rn.seq k33_46 (Rn.region k33_47 (fun call K => r33_11) (Rch.leaf (Rn.seq k33_48 ?_)))
  refine Rn.cnd (v := decide (x46 < x45)) ⟨c33_49, rfl, by kernel_rfl⟩ (fun h => ?_) (fun h => ?_)
  · replace H := H.1 (of_decide_eq_true h)
    refine Rn.skip k33_50 (Rn.seq k33_51 (Rn.block k33_52 (Rn.seq k33_53 (Rn.region k33_54 (fun call K => r33_12) (Rch.ex H fun a22' H => Rch.ex H fun x23' H => Rch.leaf (Rn.seq k33_55 (Rn.region k33_56 (fun call K => r33_13) (Rch.leaf ?_))))))))
    refine Rn.cnd (v := x23' != 0) ⟨c33_57, rfl, by kernel_rfl⟩ (fun h => ?_) (fun h => ?_)
    · replace H := H.1 (ne_of_bneT h)
      refine Rn.regionD k33_58 (fun call K => r33_14) (Rch.ex H fun a24' H => Rch.ex H fun x25' H => Rch.ex H fun a26' H => Rch.ex H fun v27' H => Rch.ex H fun q28' H => Rch.callF H fun v29' N29' H => Rch.ex H fun x30' H => Rch.ex H fun a31' H => Rch.ex H fun M32' H => Rch.leaf (Rn.blk ?_))
      exact H _ _ _ _ _ _ _ _ _ _ _ _ _ _ _ _ _ _ _ _ _ _ _ _ _ _ _ _ _ _ _ _ _ _ _ _ _ _ _ _ _ _ _ _ _ _ _ _ _ _ _ _ _ _ _ _ _ _ _ _ _ _ _ _ _ _ _ _
    · replace H := H.2 (eq_of_bneF h)
      refine Rn.skip k33_59 (Rn.blk ?_)
      exact H _ _ _ _ _ _ _ _ _ _ _ _ _ _ _ _ _ _ _ _ _ _ _ _ _ _ _ _ _ _ _ _ _ _ _ _ _ _ _ _ _ _ _ _ _ _ _ _ _ _ _ _ _ _ _ _ _ _ _ _ _ _ _ _ _ _ _ _
  · replace H := H.2 (of_decide_eq_false h)
    refine Rn.exit k33_60 rfl (Rn.region k33_61 (fun call K => r33_16) (Rch.ex H fun a33' H => Rch.ex H fun x34' H => Rch.call H fun v35' N35' H => Rch.ex H fun x36' H => Rch.ex H fun a37' H => Rch.ex H fun M38' H => Rch.leaf (Rn.blk (Rn.region k33_62 (fun call K => r33_17) (Rch.leaf ?_)))))
    refine Rn.lp ?_
    exact H _ _ _ _ _ _ _ _ _ _ _ _ _ _ _ _ _ _ _ _ _ _ _ _ _ _ _ _ _ _ _ _ _ _ _ _ _ _ _ _ _ _ _ _ _ _ _ _ _ _ _ _ _ _ _ _ _ _ _ _ _ _ _ _ _ _ _ _ _ _ _ _

theorem w33_3 {Ax1 : Option Addr} {lx1 cx1 : Nat} {x6 Ax8 : Option Addr} {lx8 cx8 : Nat} {x9 x40 x41 : Int} {Ax44 : Option Addr} {lx44 cx44 : Nat} {x45 x46 : Int} {M : Mem} {Q : Value → Mem → Prop} (H :
    A33_2 Ax1 lx1 cx1 x6 Ax8 lx8 cx8 x9 x40 x41 Ax44 lx44 cx44 x45 (IntKind.i64.wrap (x46 + 1)) M Q) :
    A33_3 Ax1 lx1 cx1 x6 Ax8 lx8 cx8 x9 x40 x41 Ax44 lx44 cx44 x45 x46 M Q := by
  intro g0 g2 g3 g4 g5 g7 gA gB gC gD gE gF gG gH gI gJ gK gL gM gN gO gP gQ gR gS gT gU gV gW gX gY gZ hA hB hC hD hG hH hL hM hN hO hP hQ hR hS hT hU hV hW hX hY hZ h0 h1 h2 h3 h4 h5 h6 h7 h8 h9 jA jB jC jD jE
  refine Rn.region k33_63 (fun call K => r33_15) (Rch.leaf (Rn.lp ?_))
  exact H _ _ _ _ _ _ _ _ _ _ _ _ _ _ _ _ _ _ _ _ _ _ _ _ _ _ _ _ _ _ _ _ _ _ _ _ _ _ _ _ _ _ _ _ _ _ _ _ _ _ _ _ _ _ _ _ _ _ _ _ _ _ _ _ _ _ _ _


/-! ### zoetrope/zoetroperef00.EqInts: function 19 -/
noncomputable abbrev P19 (p : List Nat) : Code := subC (codeOf Try.f19) p
noncomputable abbrev O19 (p : List Nat) : Array Oper := opsOf (subC (codeOf Try.f19) p)
theorem b19 : Try.prog.funcs[19]? = some Try.f19 ∧ (Orc.tab Try.prog).lookup 19 = none := ⟨by kernel_rfl, by kernel_rfl⟩
theorem d19 : Try.f19.body = some (P19 []) := by kernel_rfl
theorem t19 {Ax0 : Option Addr} {lx0 cx0 : Nat} {Ax1 : Option Addr} {lx1 cx1 : Nat} : #[.slice Ax0 lx0 cx0,.slice Ax1 lx1 cx1] ++ Array.replicate (Try.f19.ntmps - (#[.slice Ax0 lx0 cx0,.slice Ax1 lx1 cx1] : Array Value).size) undef = #[.slice Ax0 lx0 cx0,.slice Ax1 lx1 cx1,undef,undef,undef,undef,undef,undef,undef,undef,undef,undef,undef,undef,undef,undef,undef,undef,undef,undef,undef,undef,undef,undef,undef,undef] := by kernel_rfl
theorem k19_0 : P19 [] = .seq (P19 [0]) (P19 [1]) := by kernel_rfl
theorem k19_1 : P19 [0] = .region 0 (O19 [0]) false := by kernel_rfl
theorem r19_0 {M : Mem} {call : CallM} {K : Array Value → Mem → R} :
    opsK Try.prog (fun _ => call) (O19 [0]) (O19 [0]).toList 0 #[g0,g1,g2,g3,g4,g5,g6,g7,g8,g9,gA,gB,gC,gD,gE,gF,gG,gH,gI,gJ,gK,gL,gM,gN,gO,gP] M K = K #[g0,g1,g2,g3,.bool false,g5,g6,g7,g8,g9,gA,gB,gC,gD,gE,gF,gG,gH,gI,gJ,gK,gL,gM,gN,gO,gP] M := by kernel_rfl
theorem k19_2 : P19 [1] = .seq (P19 [1,0]) (P19 [1,1]) := by kernel_rfl
theorem k19_3 : P19 [1,0] = .seq (P19 [1,0,0]) (P19 [1,0,1]) := by kernel_rfl
theorem k19_4 : P19 [1,0,0] = .region 1 (O19 [1,0,0]) false := by kernel_rfl
theorem r19_1 {Ax0 : Option Addr} {lx0 cx0 : Nat} {Ax1 : Option Addr} {lx1 cx1 : Nat} {M : Mem} {call : CallM} {K : Array Value → Mem → R} :
    opsK Try.prog (fun _ => call) (O19 [1,0,0]) (O19 [1,0,0]).toList 0 #[.slice Ax0 lx0 cx0,.slice Ax1 lx1 cx1,g2,g3,g4,g5,g6,g7,g8,g9,gA,gB,gC,gD,gE,gF,gG,gH,gI,gJ,gK,gL,gM,gN,gO,gP] M K = K #[.slice Ax0 lx0 cx0,.slice Ax1 lx1 cx1,g2,g3,g4,g5,.slice Ax0 lx0 cx0,.int .i64 ((lx0 : Int)),.slice Ax1 lx1 cx1,.int .i64 ((lx1 : Int)),.bool (((lx0 : Int)) != ((lx1 : Int))),gB,gC,gD,gE,gF,gG,gH,gI,gJ,gK,gL,gM,gN,gO,gP] M := by kernel_rfl
theorem c19_5 : P19 [1,0,1] = .cond (.tmp 10) (P19 [1,0,1,0]) (P19 [1,0,1,1]) := by kernel_rfl
theorem k19_6 : P19 [1,0,1,0] = .seq (P19 [1,0,1,0,0]) (P19 [1,0,1,0,1]) := by kernel_rfl
theorem k19_7 : P19 [1,0,1,0,0] = .region 2 (O19 [1,0,1,0,0]) false := by kernel_rfl
theorem r19_2 {M : Mem} {call : CallM} {K : Array Value → Mem → R} :
    opsK Try.prog (fun _ => call) (O19 [1,0,1,0,0]) (O19 [1,0,1,0,0]).toList 0 #[g0,g1,g2,g3,g4,g5,g6,g7,g8,g9,gA,gB,gC,gD,gE,gF,gG,gH,gI,gJ,gK,gL,gM,gN,gO,gP] M K = K #[g0,g1,g2,g3,.bool false,g5,g6,g7,g8,g9,gA,gB,gC,gD,gE,gF,gG,gH,gI,gJ,gK,gL,gM,gN,gO,gP] M := by kernel_rfl
theorem k19_8 : P19 [1,0,1,0,1] = .ret := by kernel_rfl
theorem e19 {M : Mem} : finish Try.prog Try.f19 #[g0,g1,g2,g3,g4,g5,g6,g7,g8,g9,gA,gB,gC,gD,gE,gF,gG,gH,gI,gJ,gK,gL,gM,gN,gO,gP] M = some (g4, M) := by kernel_rfl
theorem k19_10 : P19 [1,0,1,1] = .skip := by kernel_rfl
theorem k19_11 : P19 [1,1] = .seq (P19 [1,1,0]) (P19 [1,1,1]) := by kernel_rfl
theorem k19_12 : P19 [1,1,0] = .seq (P19 [1,1,0,0]) (P19 [1,1,0,1]) := by kernel_rfl
theorem k19_13 : P19 [1,1,0,0] = .region 3 (O19 [1,1,0,0]) false := by kernel_rfl
theorem r19_3 {M : Mem} {call : CallM} {K : Array Value → Mem → R} :
    opsK Try.prog (fun _ => call) (O19 [1,1,0,0]) (O19 [1,1,0,0]).toList 0 #[g0,g1,g2,g3,g4,g5,g6,g7,g8,g9,gA,gB,gC,gD,gE,gF,gG,gH,gI,gJ,gK,gL,gM,gN,gO,gP] M K = K #[g0,g1,g2,g3,g4,.int .i64 0,g6,g7,g8,g9,gA,gB,gC,gD,gE,gF,gG,gH,gI,gJ,gK,gL,gM,gN,gO,gP] M := by kernel_rfl
theorem k19_14 : P19 [1,1,0,1] = .block 0 (P19 [1,1,0,1,0]) := by kernel_rfl
theorem k19_15 : P19 [1,1,0,1,0] = .loop (P19 [1,1,0,1,0,0]) := by kernel_rfl
theorem k19_16 : P19 [1,1,0,1,0,0] = .seq (P19 [1,1,0,1,0,0,0]) (P19 [1,1,0,1,0,0,1]) := by kernel_rfl
theorem k19_17 : P19 [1,1,0,1,0,0,0] = .seq (P19 [1,1,0,1,0,0,0,0]) (P19 [1,1,0,1,0,0,0,1]) := by kernel_rfl
theorem k19_18 : P19 [1,1,0,1,0,0,0,0] = .region 4 (O19 [1,1,0,1,0,0,0,0]) false := by kernel_rfl
theorem r19_4 {Ax0 : Option Addr} {lx0 cx0 : Nat} {x5 : Int} {M : Mem} {call : CallM} {K : Array Value → Mem → R} :
    opsK Try.prog (fun _ => call) (O19 [1,1,0,1,0,0,0,0]) (O19 [1,1,0,1,0,0,0,0]).toList 0 #[.slice Ax0 lx0 cx0,g1,g2,g3,g4,.int .i64 x5,g6,g7,g8,g9,gA,gB,gC,gD,gE,gF,gG,gH,gI,gJ,gK,gL,gM,gN,gO,gP] M K = K #[.slice Ax0 lx0 cx0,g1,g2,g3,g4,.int .i64 x5,g6,g7,g8,g9,gA,.int .i64 x5,.slice Ax0 lx0 cx0,.int .i64 ((lx0 : Int)),.bool (decide (x5 < ((lx0 : Int)))),gF,gG,gH,gI,gJ,gK,gL,gM,gN,gO,gP] M := by kernel_rfl
theorem c19_19 : P19 [1,1,0,1,0,0,0,1] = .cond (.tmp 14) (P19 [1,1,0,1,0,0,0,1,0]) (P19 [1,1,0,1,0,0,0,1,1]) := by kernel_rfl
theorem k19_20 : P19 [1,1,0,1,0,0,0,1,0] = .skip := by kernel_rfl
theorem k19_21 : P19 [1,1,0,1,0,0,1] = .seq (P19 [1,1,0,1,0,0,1,0]) (P19 [1,1,0,1,0,0,1,1]) := by kernel_rfl
theorem k19_22 : P19 [1,1,0,1,0,0,1,0] = .block 1 (P19 [1,1,0,1,0,0,1,0,0]) := by kernel_rfl
theorem k19_23 : P19 [1,1,0,1,0,0,1,0,0] = .seq (P19 [1,1,0,1,0,0,1,0,0,0]) (P19 [1,1,0,1,0,0,1,0,0,1]) := by kernel_rfl
theorem k19_24 : P19 [1,1,0,1,0,0,1,0,0,0] = .region 6 (O19 [1,1,0,1,0,0,1,0,0,0]) true ∧ drawOk (O19 [1,1,0,1,0,0,1,0,0,0]) = true := ⟨by kernel_rfl, by kernel_rfl⟩
theorem r19_6 {Ax0 : Option Addr} {lx0 cx0 : Nat} {Ax1 : Option Addr} {lx1 cx1 : Nat} {x5 : Int} {M : Mem} {call : CallM} {K : Array Value → Mem → R} :
    opsI Try.prog (callAt call (O19 [1,1,0,1,0,0,1,0,0,0])) (O19 [1,1,0,1,0,0,1,0,0,0]) (ordOf (O19 [1,1,0,1,0,0,1,0,0,0])) [] #[.slice Ax0 lx0 cx0,.slice Ax1 lx1 cx1,g2,g3,g4,.int .i64 x5,g6,g7,g8,g9,gA,gB,gC,gD,gE,gF,gG,gH,gI,gJ,gK,gL,gM,gN,gO,gP] M K = (idxA Ax0 lx0 1 x5).bind fun a_1 => (M.intAt .i64 a_1.block a_1.off).bind fun x_2 => (idxA Ax1 lx1 1 x5).bind fun a_3 => (M.intAt .i64 a_3.block a_3.off).bind fun x_4 => K #[.slice Ax0 lx0 cx0,.slice Ax1 lx1 cx1,g2,g3,g4,.int .i64 x5,g6,g7,g8,g9,gA,gB,gC,gD,gE,gF,gG,.slice Ax0 lx0 cx0,.int .i64 x5,.pointer (some a_1),.int .i64 x_2,.slice Ax1 lx1 cx1,.int .i64 x5,.pointer (some a_3),.int .i64 x_4,.bool (x_2 != x_4)] M := by kernel_rfl
theorem c19_25 : P19 [1,1,0,1,0,0,1,0,0,1] = .cond (.tmp 25) (P19 [1,1,0,1,0,0,1,0,0,1,0]) (P19 [1,1,0,1,0,0,1,0,0,1,1]) := by kernel_rfl
theorem k19_26 : P19 [1,1,0,1,0,0,1,0,0,1,0] = .seq (P19 [1,1,0,1,0,0,1,0,0,1,0,0]) (P19 [1,1,0,1,0,0,1,0,0,1,0,1]) := by kernel_rfl
theorem k19_27 : P19 [1,1,0,1,0,0,1,0,0,1,0,0] = .region 7 (O19 [1,1,0,1,0,0,1,0,0,1,0,0]) false := by kernel_rfl
theorem r19_7 {M : Mem} {call : CallM} {K : Array Value → Mem → R} :
    opsK Try.prog (fun _ => call) (O19 [1,1,0,1,0,0,1,0,0,1,0,0]) (O19 [1,1,0,1,0,0,1,0,0,1,0,0]).toList 0 #[g0,g1,g2,g3,g4,g5,g6,g7,g8,g9,gA,gB,gC,gD,gE,gF,gG,gH,gI,gJ,gK,gL,gM,gN,gO,gP] M K = K #[g0,g1,g2,g3,.bool false,g5,g6,g7,g8,g9,gA,gB,gC,gD,gE,gF,gG,gH,gI,gJ,gK,gL,gM,gN,gO,gP] M := by kernel_rfl
theorem k19_28 : P19 [1,1,0,1,0,0,1,0,0,1,0,1] = .ret := by kernel_rfl
theorem k19_29 : P19 [1,1,0,1,0,0,1,0,0,1,1] = .skip := by kernel_rfl
theorem k19_30 : P19 [1,1,0,1,0,0,1,1] = .region 5 (O19 [1,1,0,1,0,0,1,1]) false := by kernel_rfl
theorem r19_5 {x5 : Int} {M : Mem} {call : CallM} {K : Array Value → Mem → R} :
    opsK Try.prog (fun _ => call) (O19 [1,1,0,1,0,0,1,1]) (O19 [1,1,0,1,0,0,1,1]).toList 0 #[g0,g1,g2,g3,g4,.int .i64 x5,g6,g7,g8,g9,gA,gB,gC,gD,gE,gF,gG,gH,gI,gJ,gK,gL,gM,gN,gO,gP] M K = K #[g0,g1,g2,g3,g4,.int .i64 (IntKind.i64.wrap (x5 + 1)),g6,g7,g8,g9,gA,gB,gC,gD,gE,.int .i64 x5,.int .i64 (IntKind.i64.wrap (x5 + 1)),gH,gI,gJ,gK,gL,gM,gN,gO,gP] M := by kernel_rfl
theorem k19_31 : P19 [1,1,0,1,0,0,0,1,1] = .exit 0 := by kernel_rfl
theorem k19_32 : P19 [1,1,1] = .seq (P19 [1,1,1,0]) (P19 [1,1,1,1]) := by kernel_rfl
theorem k19_33 : P19 [1,1,1,0] = .region 8 (O19 [1,1,1,0]) false := by kernel_rfl
theorem r19_8 {M : Mem} {call : CallM} {K : Array Value → Mem → R} :
    opsK Try.prog (fun _ => call) (O19 [1,1,1,0]) (O19 [1,1,1,0]).toList 0 #[g0,g1,g2,g3,g4,g5,g6,g7,g8,g9,gA,gB,gC,gD,gE,gF,gG,gH,gI,gJ,gK,gL,gM,gN,gO,gP] M K = K #[g0,g1,g2,g3,.bool true,g5,g6,g7,g8,g9,gA,gB,gC,gD,gE,gF,gG,gH,gI,gJ,gK,gL,gM,gN,gO,gP] M := by kernel_rfl
theorem k19_34 : P19 [1,1,1,1] = .ret := by kernel_rfl
noncomputable def S19_1 : List Item := [.code (P19 [1,1,0,1,0,0]), .inLoop (P19 [1,1,0,1,0,0]), .inBlock 0, .code (P19 [1,1,1])]
def A19_1 (Ax0 : Option Addr) (lx0 cx0 : Nat) (Ax1 : Option Addr) (lx1 cx1 : Nat) (x5 : Int) (M : Mem) (Q : Value → Mem → Prop) : Prop := ∀ (g2 g3 g4 g6 g7 g8 g9 gA gB gC gD gE gF gG gH gI gJ gK gL gM gN gO gP : Value), Rn Try.prog Try.f19 S19_1 #[.slice Ax0 lx0 cx0, .slice Ax1 lx1 cx1, g2, g3, g4, .int .i64 x5, g6, g7, g8, g9, gA, gB, gC, gD, gE, gF, gG, gH, gI, gJ, gK, gL, gM, gN, gO, gP] M Q
theorem w19_0 {Ax0 : Option Addr} {lx0 cx0 : Nat} {Ax1 : Option Addr} {lx1 cx1 : Nat} {M : Mem} {Q : Value → Mem → Prop} (H :
    ((((lx0 : Int)) ≠ ((lx1 : Int)) →
     Q (.bool false) M) ∧
     (((lx0 : Int)) = ((lx1 : Int)) →
     A19_1 Ax0 lx0 cx0 Ax1 lx1 cx1 0 M Q))) :
    Cn Try.prog 19 #[.slice Ax0 lx0 cx0, .slice Ax1 lx1 cx1] M Q := by
  refine Cn.of b19 d19 t19 ?_
  refine Rn.seq k19_0 (Rn.region k19_1 (fun call K => r19_0) (Rch.leaf (Rn.seq k19_2 (Rn.seq k19_3 (Rn.region k19_4 (fun call K => r19_1) (Rch.leaf ?_))))))
  refine Rn.cnd (v := ((lx0 : Int)) != ((lx1 : Int))) ⟨c19_5, rfl, by kernel_rfl⟩ (fun h => ?_) (fun h => ?_)
  · replace H := H.1 (ne_of_bneT h)
    refine Rn.seq k19_6 (Rn.region k19_7 (fun call K => r19_2) (Rch.leaf ?_))
    exact Rn.ret k19_8 e19 H
  · replace H := H.2 (eq_of_bneF h)
    refine Rn.skip k19_10 (Rn.seq k19_11 (Rn.seq k19_12 (Rn.region k19_13 (fun call K => r19_3) (Rch.leaf (Rn.block k19_14 (Rn.loop k19_15 ?_))))))
    exact H _ _ _ _ _ _ _ _ _ _ _ _ _ _ _ _ _ _ _ _ _ _ _

theorem w19_1 {Ax0 : Option Addr} {lx0 cx0 : Nat} {Ax1 : Option Addr} {lx1 cx1 : Nat} {x5 : Int} {M : Mem} {Q : Value → Mem → Prop} (H :
    ((x5 < ((lx0 : Int)) →
     ∃ a1', idxA Ax0 lx0 1 x5 = some a1' ∧
     ∃ x2', M.intAt .i64 a1'.block a1'.off = some x2' ∧
     ∃ a3', idxA Ax1 lx1 1 x5 = some a3' ∧
     ∃ x4', M.intAt .i64 a3'.block a3'.off = some x4' ∧
     ((x2' ≠ x4' →
      Q (.bool false) M) ∧
      (x2' = x4' →
      A19_1 Ax0 lx0 cx0 Ax1 lx1 cx1 (IntKind.i64.wrap (x5 + 1)) M Q))) ∧
     (¬ (x5 < ((lx0 : Int))) →
     Q (.bool true) M))) :
    A19_1 Ax0 lx0 cx0 Ax1 lx1 cx1 x5 M Q := by
  intro g2 g3 g4 g6 g7 g8 g9 gA gB gC gD gE gF gG gH gI gJ gK gL gM gN gO gP
  refine Rn.seq k19_16 (Rn.seq k19_17 (Rn.region k19_18 (fun call K => r19_4) (Rch.leaf ?_)))
  refine Rn.cnd (v := decide (x5 < ((lx0 : Int)))) ⟨c19_19, rfl, by kernel_rfl⟩ (fun h => ?_) (fun h => ?_)
  · replace H := H.1 (of_decide_eq_true h)
    refine Rn.skip k19_20 (Rn.seq k19_21 (Rn.block k19_22 (Rn.seq k19_23 (Rn.regionD k19_24 (fun call K => r19_6) (Rch.ex H fun a1' H => Rch.ex H fun x2' H => Rch.ex H fun a3' H => Rch.ex H fun x4' H => Rch.leaf ?_)))))
    refine Rn.cnd (v := x2' != x4') ⟨c19_25, rfl, by kernel_rfl⟩ (fun h => ?_) (fun h => ?_)
    · replace H := H.1 (ne_of_bneT h)
      refine Rn.seq k19_26 (Rn.region k19_27 (fun call K => r19_7) (Rch.leaf ?_))
      exact Rn.ret k19_28 e19 H
    · replace H := H.2 (eq_of_bneF h)
      refine Rn.skip k19_29 (Rn.blk (Rn.region k19_30 (fun call K => r19_5) (Rch.leaf (Rn.lp ?_))))
      exact H _ _ _ _ _ _ _ _ _ _ _ _ _ _ _ _ _ _ _ _ _ _ _
  · replace H := H.2 (of_decide_eq_false h)
    refine Rn.exit k19_31 rfl (Rn.seq k19_32 (Rn.region k19_33 (fun call K => r19_8) (Rch.leaf ?_)))
    exact Rn.ret k19_34 e19 H


/-! ### zoetrope/zoetroperef07.Cos: function 74 -/
noncomputable abbrev P74 (p : List Nat) : Code := subC (codeOf Try.f74) p
noncomputable abbrev O74 (p : List Nat) : Array Oper := opsOf (subC (codeOf Try.f74) p)
theorem b74 : Try.prog.funcs[74]? = some Try.f74 ∧ (Orc.tab Try.prog).lookup 74 = none := ⟨by kernel_rfl, by kernel_rfl⟩
theorem d74 : Try.f74.body = some (P74 []) := by kernel_rfl
theorem t74 {x0 : Int} : #[.int .i64 x0] ++ Array.replicate (Try.f74.ntmps - (#[.int .i64 x0] : Array Value).size) undef = #[.int .i64 x0,undef,undef,undef,undef,undef,undef,undef,undef,undef,undef,undef,undef,undef,undef,undef,undef,undef,undef,undef,undef,undef,undef,undef,undef] := by kernel_rfl
theorem k74_0 : P74 [] = .seq (P74 [0]) (P74 [1]) := by kernel_rfl
theorem k74_1 : P74 [0] = .region 0 (O74 [0]) false := by kernel_rfl
theorem r74_0 {M : Mem} {call : CallM} {K : Array Value → Mem → R} :
    opsK Try.prog (fun _ => call) (O74 [0]) (O74 [0]).toList 0 #[g0,g1,g2,g3,g4,g5,g6,g7,g8,g9,gA,gB,gC,gD,gE,gF,gG,gH,gI,gJ,gK,gL,gM,gN,gO] M K = K #[g0,g1,.int .i64 0,g3,g4,g5,g6,g7,g8,g9,gA,gB,gC,gD,gE,gF,gG,gH,gI,gJ,gK,gL,gM,gN,gO] M := by kernel_rfl
theorem k74_2 : P74 [1] = .seq (P74 [1,0]) (P74 [1,1]) := by kernel_rfl
theorem k74_3 : P74 [1,0] = .region 1 (O74 [1,0]) false := by kernel_rfl
theorem r74_1 {M : Mem} {call : CallM} {K : Array Value → Mem → R} :
    opsK Try.prog (fun _ => call) (O74 [1,0]) (O74 [1,0]).toList 0 #[g0,g1,g2,g3,g4,g5,g6,g7,g8,g9,gA,gB,gC,gD,gE,gF,gG,gH,gI,gJ,gK,gL,gM,gN,gO] M K = ((M.new (.cells #[.int .i64 0, .int .i64 0, .int .i64 0, .int .i64 0, .int .i64 0, .int .i64 0, .int .i64 0, .int .i64 0, .int .i64 0, .int .i64 0, .int .i64 0, .int .i64 0, .int .i64 0, .int .i64 0, .int .i64 0, .int .i64 0, .int .i64 0, .int .i64 0, .int .i64 0, .int .i64 0, .int .i64 0, .int .i64 0, .int .i64 0, .int .i64 0, .int .i64 0, .int .i64 0, .int .i64 0, .int .i64 0, .int .i64 0, .int .i64 0, .int .i64 0, .int .i64 0, .int .i64 0, .int .i64 0, .int .i64 0, .int .i64 0, .int .i64 0, .int .i64 0, .int .i64 0, .int .i64 0, .int .i64 0, .int .i64 0, .int .i64 0, .int .i64 0, .int .i64 0, .int .i64 0, .int .i64 0, .int .i64 0, .int .i64 0, .int .i64 0, .int .i64 0, .int .i64 0, .int .i64 0, .int .i64 0, .int .i64 0, .int .i64 0, .int .i64 0, .int .i64 0, .int .i64 0, .int .i64 0, .int .i64 0, .int .i64 0, .int .i64 0, .int .i64 0, .int .i64 0] 70)).put (2 * M.nb.size) 0 (.int .i64 4096)).bind fun M_1 => (M_1.put (2 * M.nb.size) 1 (.int .i64 4095)).bind fun M_2 => (M_2.put (2 * M.nb.size) 2 (.int .i64 4091)).bind fun M_3 => (M_3.put (2 * M.nb.size) 3 (.int .i64 4085)).bind fun M_4 => (M_4.put (2 * M.nb.size) 4 (.int .i64 4076)).bind fun M_5 => (M_5.put (2 * M.nb.size) 5 (.int .i64 4065)).bind fun M_6 => (M_6.put (2 * M.nb.size) 6 (.int .i64 4052)).bind fun M_7 => (M_7.put (2 * M.nb.size) 7 (.int .i64 4036)).bind fun M_8 => (M_8.put (2 * M.nb.size) 8 (.int .i64 4017)).bind fun M_9 => (M_9.put (2 * M.nb.size) 9 (.int .i64 3996)).bind fun M_10 => (M_10.put (2 * M.nb.size) 10 (.int .i64 3973)).bind fun M_11 => (M_11.put (2 * M.nb.size) 11 (.int .i64 3948)).bind fun M_12 => (M_12.put (2 * M.nb.size) 12 (.int .i64 3920)).bind fun M_13 => (M_13.put (2 * M.nb.size) 13 (.int .i64 3889)).bind fun M_14 => (M_14.put (2 * M.nb.size) 14 (.int .i64 3857)).bind fun M_15 => (M_15.put (2 * M.nb.size) 15 (.int .i64 3822)).bind fun M_16 => (M_16.put (2 * M.nb.size) 16 (.int .i64 3784)).bind fun M_17 => (M_17.put (2 * M.nb.size) 17 (.int .i64 3745)).bind fun M_18 => (M_18.put (2 * M.nb.size) 18 (.int .i64 3703)).bind fun M_19 => (M_19.put (2 * M.nb.size) 19 (.int .i64 3659)).bind fun M_20 => (M_20.put (2 * M.nb.size) 20 (.int .i64 3612)).bind fun M_21 => (M_21.put (2 * M.nb.size) 21 (.int .i64 3564)).bind fun M_22 => (M_22.put (2 * M.nb.size) 22 (.int .i64 3513)).bind fun M_23 => (M_23.put (2 * M.nb.size) 23 (.int .i64 3461)).bind fun M_24 => (M_24.put (2 * M.nb.size) 24 (.int .i64 3406)).bind fun M_25 => (M_25.put (2 * M.nb.size) 25 (.int .i64 3349)).bind fun M_26 => (M_26.put (2 * M.nb.size) 26 (.int .i64 3290)).bind fun M_27 => (M_27.put (2 * M.nb.size) 27 (.int .i64 3229)).bind fun M_28 => (M_28.put (2 * M.nb.size) 28 (.int .i64 3166)).bind fun M_29 => (M_29.put (2 * M.nb.size) 29 (.int .i64 3102)).bind fun M_30 => (M_30.put (2 * M.nb.size) 30 (.int .i64 3035)).bind fun M_31 => (M_31.put (2 * M.nb.size) 31 (.int .i64 2967)).bind fun M_32 => (M_32.put (2 * M.nb.size) 32 (.int .i64 2896)).bind fun M_33 => (M_33.put (2 * M.nb.size) 33 (.int .i64 2824)).bind fun M_34 => (M_34.put (2 * M.nb.size) 34 (.int .i64 2751)).bind fun M_35 => (M_35.put (2 * M.nb.size) 35 (.int .i64 2675)).bind fun M_36 => (M_36.put (2 * M.nb.size) 36 (.int .i64 2598)).bind fun M_37 => (M_37.put (2 * M.nb.size) 37 (.int .i64 2520)).bind fun M_38 => (M_38.put (2 * M.nb.size) 38 (.int .i64 2440)).bind fun M_39 => (M_39.put (2 * M.nb.size) 39 (.int .i64 2359)).bind fun M_40 => (M_40.put (2 * M.nb.size) 40 (.int .i64 2276)).bind fun M_41 => (M_41.put (2 * M.nb.size) 41 (.int .i64 2191)).bind fun M_42 => (M_42.put (2 * M.nb.size) 42 (.int .i64 2106)).bind fun M_43 => (M_43.put (2 * M.nb.size) 43 (.int .i64 2019)).bind fun M_44 => (M_44.put (2 * M.nb.size) 44 (.int .i64 1931)).bind fun M_45 => (M_45.put (2 * M.nb.size) 45 (.int .i64 1842)).bind fun M_46 => (M_46.put (2 * M.nb.size) 46 (.int .i64 1751)).bind fun M_47 => (M_47.put (2 * M.nb.size) 47 (.int .i64 1660)).bind fun M_48 => (M_48.put (2 * M.nb.size) 48 (.int .i64 1567)).bind fun M_49 => (M_49.put (2 * M.nb.size) 49 (.int .i64 1474)).bind fun M_50 => (M_50.put (2 * M.nb.size) 50 (.int .i64 1380)).bind fun M_51 => (M_51.put (2 * M.nb.size) 51 (.int .i64 1285)).bind fun M_52 => (M_52.put (2 * M.nb.size) 52 (.int .i64 1189)).bind fun M_53 => (M_53.put (2 * M.nb.size) 53 (.int .i64 1092)).bind fun M_54 => (M_54.put (2 * M.nb.size) 54 (.int .i64 995)).bind fun M_55 => (M_55.put (2 * M.nb.size) 55 (.int .i64 897)).bind fun M_56 => (M_56.put (2 * M.nb.size) 56 (.int .i64 799)).bind fun M_57 => (M_57.put (2 * M.nb.size) 57 (.int .i64 700)).bind fun M_58 => (M_58.put (2 * M.nb.size) 58 (.int .i64 601)).bind fun M_59 => (M_59.put (2 * M.nb.size) 59 (.int .i64 501)).bind fun M_60 => (M_60.put (2 * M.nb.size) 60 (.int .i64 401)).bind fun M_61 => (M_61.put (2 * M.nb.size) 61 (.int .i64 301)).bind fun M_62 => (M_62.put (2 * M.nb.size) 62 (.int .i64 201)).bind fun M_63 => (M_63.put (2 * M.nb.size) 63 (.int .i64 101)).bind fun M_64 => (M_64.put (2 * M.nb.size) 64 (.int .i64 0)).bind fun M_65 => K #[g0,g1,g2,.pointer (some ⟨2 * M.nb.size, 0, none⟩),.agg #[.int .i64 4096, .int .i64 4095, .int .i64 4091, .int .i64 4085, .int .i64 4076, .int .i64 4065, .int .i64 4052, .int .i64 4036, .int .i64 4017, .int .i64 3996, .int .i64 3973, .int .i64 3948, .int .i64 3920, .int .i64 3889, .int .i64 3857, .int .i64 3822, .int .i64 3784, .int .i64 3745, .int .i64 3703, .int .i64 3659, .int .i64 3612, .int .i64 3564, .int .i64 3513, .int .i64 3461, .int .i64 3406, .int .i64 3349, .int .i64 3290, .int .i64 3229, .int .i64 3166, .int .i64 3102, .int .i64 3035, .int .i64 2967, .int .i64 2896, .int .i64 2824, .int .i64 2751, .int .i64 2675, .int .i64 2598, .int .i64 2520, .int .i64 2440, .int .i64 2359, .int .i64 2276, .int .i64 2191, .int .i64 2106, .int .i64 2019, .int .i64 1931, .int .i64 1842, .int .i64 1751, .int .i64 1660, .int .i64 1567, .int .i64 1474, .int .i64 1380, .int .i64 1285, .int .i64 1189, .int .i64 1092, .int .i64 995, .int .i64 897, .int .i64 799, .int .i64 700, .int .i64 601, .int .i64 501, .int .i64 401, .int .i64 301, .int .i64 201, .int .i64 101, .int .i64 0],g5,g6,g7,g8,g9,gA,gB,gC,gD,gE,gF,gG,gH,gI,gJ,gK,gL,gM,gN,gO] M_65 := by kernel_rfl
theorem k74_4 : P74 [1,1] = .seq (P74 [1,1,0]) (P74 [1,1,1]) := by kernel_rfl
theorem k74_5 : P74 [1,1,0] = .region 2 (O74 [1,1,0]) false := by kernel_rfl
theorem r74_2 {x0 : Int} {M : Mem} {call : CallM} {K : Array Value → Mem → R} :
    opsK Try.prog (fun _ => call) (O74 [1,1,0]) (O74 [1,1,0]).toList 0 #[.int .i64 x0,g1,g2,g3,g4,g5,g6,g7,g8,g9,gA,gB,gC,gD,gE,gF,gG,gH,gI,gJ,gK,gL,gM,gN,gO] M K = K #[.int .i64 (x0.tmod 256),g1,g2,g3,g4,.int .i64 x0,.int .i64 (x0.tmod 256),g7,g8,g9,gA,gB,gC,gD,gE,gF,gG,gH,gI,gJ,gK,gL,gM,gN,gO] M := by kernel_rfl
theorem k74_6 : P74 [1,1,1] = .seq (P74 [1,1,1,0]) (P74 [1,1,1,1]) := by kernel_rfl
theorem k74_7 : P74 [1,1,1,0] = .seq (P74 [1,1,1,0,0]) (P74 [1,1,1,0,1]) := by kernel_rfl
theorem k74_8 : P74 [1,1,1,0,0] = .region 3 (O74 [1,1,1,0,0]) false := by kernel_rfl
theorem r74_3 {x0 : Int} {M : Mem} {call : CallM} {K : Array Value → Mem → R} :
    opsK Try.prog (fun _ => call) (O74 [1,1,1,0,0]) (O74 [1,1,1,0,0]).toList 0 #[.int .i64 x0,g1,g2,g3,g4,g5,g6,g7,g8,g9,gA,gB,gC,gD,gE,gF,gG,gH,gI,gJ,gK,gL,gM,gN,gO] M K = K #[.int .i64 x0,g1,g2,g3,g4,g5,g6,.int .i64 x0,.bool (decide (x0 < 0)),g9,gA,gB,gC,gD,gE,gF,gG,gH,gI,gJ,gK,gL,gM,gN,gO] M := by kernel_rfl
theorem c74_9 : P74 [1,1,1,0,1] = .cond (.tmp 8) (P74 [1,1,1,0,1,0]) (P74 [1,1,1,0,1,1]) := by kernel_rfl
theorem k74_10 : P74 [1,1,1,0,1,0] = .region 4 (O74 [1,1,1,0,1,0]) false := by kernel_rfl
theorem r74_4 {x0 : Int} {M : Mem} {call : CallM} {K : Array Value → Mem → R} :
    opsK Try.prog (fun _ => call) (O74 [1,1,1,0,1,0]) (O74 [1,1,1,0,1,0]).toList 0 #[.int .i64 x0,g1,g2,g3,g4,g5,g6,g7,g8,g9,gA,gB,gC,gD,gE,gF,gG,gH,gI,gJ,gK,gL,gM,gN,gO] M K = K #[.int .i64 (IntKind.i64.wrap (x0 + 256)),g1,g2,g3,g4,g5,g6,g7,g8,.int .i64 x0,.int .i64 (IntKind.i64.wrap (x0 + 256)),gB,gC,gD,gE,gF,gG,gH,gI,gJ,gK,gL,gM,gN,gO] M := by kernel_rfl
theorem k74_11 : P74 [1,1,1,1] = .seq (P74 [1,1,1,1,0]) (P74 [1,1,1,1,1]) := by kernel_rfl
theorem k74_12 : P74 [1,1,1,1,0] = .seq (P74 [1,1,1,1,0,0]) (P74 [1,1,1,1,0,1]) := by kernel_rfl
theorem k74_13 : P74 [1,1,1,1,0,0] = .region 5 (O74 [1,1,1,1,0,0]) false := by kernel_rfl
theorem r74_5 {x0 : Int} {M : Mem} {call : CallM} {K : Array Value → Mem → R} :
    opsK Try.prog (fun _ => call) (O74 [1,1,1,1,0,0]) (O74 [1,1,1,1,0,0]).toList 0 #[.int .i64 x0,g1,g2,g3,g4,g5,g6,g7,g8,g9,gA,gB,gC,gD,gE,gF,gG,gH,gI,gJ,gK,gL,gM,gN,gO] M K = K #[.int .i64 x0,g1,g2,g3,g4,g5,g6,g7,g8,g9,gA,.int .i64 x0,.bool (decide (x0 > 128)),gD,gE,gF,gG,gH,gI,gJ,gK,gL,gM,gN,gO] M := by kernel_rfl
theorem c74_14 : P74 [1,1,1,1,0,1] = .cond (.tmp 12) (P74 [1,1,1,1,0,1,0]) (P74 [1,1,1,1,0,1,1]) := by kernel_rfl
theorem k74_15 : P74 [1,1,1,1,0,1,0] = .region 6 (O74 [1,1,1,1,0,1,0]) false := by kernel_rfl
theorem r74_6 {x0 : Int} {M : Mem} {call : CallM} {K : Array Value → Mem → R} :
    opsK Try.prog (fun _ => call) (O74 [1,1,1,1,0,1,0]) (O74 [1,1,1,1,0,1,0]).toList 0 #[.int .i64 x0,g1,g2,g3,g4,g5,g6,g7,g8,g9,gA,gB,gC,gD,gE,gF,gG,gH,gI,gJ,gK,gL,gM,gN,gO] M K = K #[.int .i64 (IntKind.i64.wrap (256 - x0)),g1,g2,g3,g4,g5,g6,g7,g8,g9,gA,gB,gC,.int .i64 x0,.int .i64 (IntKind.i64.wrap (256 - x0)),gF,gG,gH,gI,gJ,gK,gL,gM,gN,gO] M := by kernel_rfl
theorem k74_16 : P74 [1,1,1,1,1] = .seq (P74 [1,1,1,1,1,0]) (P74 [1,1,1,1,1,1]) := by kernel_rfl
theorem k74_17 : P74 [1,1,1,1,1,0] = .seq (P74 [1,1,1,1,1,0,0]) (P74 [1,1,1,1,1,0,1]) := by kernel_rfl
theorem k74_18 : P74 [1,1,1,1,1,0,0] = .region 7 (O74 [1,1,1,1,1,0,0]) false := by kernel_rfl
theorem r74_7 {x0 : Int} {M : Mem} {call : CallM} {K : Array Value → Mem → R} :
    opsK Try.prog (fun _ => call) (O74 [1,1,1,1,1,0,0]) (O74 [1,1,1,1,1,0,0]).toList 0 #[.int .i64 x0,g1,g2,g3,g4,g5,g6,g7,g8,g9,gA,gB,gC,gD,gE,gF,gG,gH,gI,gJ,gK,gL,gM,gN,gO] M K = K #[.int .i64 x0,g1,g2,g3,g4,g5,g6,g7,g8,g9,gA,gB,gC,gD,gE,.int .i64 x0,.bool (decide (x0 > 64)),gH,gI,gJ,gK,gL,gM,gN,gO] M := by kernel_rfl
theorem c74_19 : P74 [1,1,1,1,1,0,1] = .cond (.tmp 16) (P74 [1,1,1,1,1,0,1,0]) (P74 [1,1,1,1,1,0,1,1]) := by kernel_rfl
theorem k74_20 : P74 [1,1,1,1,1,0,1,0] = .seq (P74 [1,1,1,1,1,0,1,0,0]) (P74 [1,1,1,1,1,0,1,0,1]) := by kernel_rfl
theorem k74_21 : P74 [1,1,1,1,1,0,1,0,0] = .region 8 (O74 [1,1,1,1,1,0,1,0,0]) false := by kernel_rfl
theorem r74_8 {x0 : Int} {x3 : Option Addr} {M : Mem} {call : CallM} {K : Array Value → Mem → R} :
    opsK Try.prog (fun _ => call) (O74 [1,1,1,1,1,0,1,0,0]) (O74 [1,1,1,1,1,0,1,0,0]).toList 0 #[.int .i64 x0,g1,g2,.pointer x3,g4,g5,g6,g7,g8,g9,gA,gB,gC,gD,gE,gF,gG,gH,gI,gJ,gK,gL,gM,gN,gO] M K = (idxA x3 65 1 (IntKind.i64.wrap (128 - x0))).bind fun a_1 => (M.intAt .i64 a_1.block a_1.off).bind fun x_2 => K #[.int .i64 x0,g1,.int .i64 (IntKind.i64.wrap (0 - x_2)),.pointer x3,g4,g5,g6,g7,g8,g9,gA,gB,gC,gD,gE,gF,gG,.int .i64 x0,.int .i64 (IntKind.i64.wrap (128 - x0)),.pointer (some a_1),.int .i64 x_2,.int .i64 (IntKind.i64.wrap (0 - x_2)),gM,gN,gO] M := by kernel_rfl
theorem k74_22 : P74 [1,1,1,1,1,0,1,0,1] = .ret := by kernel_rfl
theorem e74 {M : Mem} : finish Try.prog Try.f74 #[g0,g1,g2,g3,g4,g5,g6,g7,g8,g9,gA,gB,gC,gD,gE,gF,gG,gH,gI,gJ,gK,gL,gM,gN,gO] M = some (g2, M) := by kernel_rfl
theorem k74_24 : P74 [1,1,1,1,1,0,1,1] = .skip := by kernel_rfl
theorem k74_25 : P74 [1,1,1,1,1,1] = .seq (P74 [1,1,1,1,1,1,0]) (P74 [1,1,1,1,1,1,1]) := by kernel_rfl
theorem k74_26 : P74 [1,1,1,1,1,1,0] = .region 9 (O74 [1,1,1,1,1,1,0]) false := by kernel_rfl
theorem r74_9 {x0 : Int} {x3 : Option Addr} {M : Mem} {call : CallM} {K : Array Value → Mem → R} :
    opsK Try.prog (fun _ => call) (O74 [1,1,1,1,1,1,0]) (O74 [1,1,1,1,1,1,0]).toList 0 #[.int .i64 x0,g1,g2,.pointer x3,g4,g5,g6,g7,g8,g9,gA,gB,gC,gD,gE,gF,gG,gH,gI,gJ,gK,gL,gM,gN,gO] M K = (idxA x3 65 1 x0).bind fun a_1 => (M.intAt .i64 a_1.block a_1.off).bind fun x_2 => K #[.int .i64 x0,g1,.int .i64 x_2,.pointer x3,g4,g5,g6,g7,g8,g9,gA,gB,gC,gD,gE,gF,gG,gH,gI,gJ,gK,gL,.int .i64 x0,.pointer (some a_1),.int .i64 x_2] M := by kernel_rfl
theorem k74_27 : P74 [1,1,1,1,1,1,1] = .ret := by kernel_rfl
theorem k74_28 : P74 [1,1,1,1,0,1,1] = .skip := by kernel_rfl
theorem k74_29 : P74 [1,1,1,0,1,1] = .skip := by kernel_rfl
theorem w74_0 {x0 : Int} {M : Mem} {Q : Value → Mem → Prop} (H :
    ∃ M1', (M.new (.cells #[.int .i64 0, .int .i64 0, .int .i64 0, .int .i64 0, .int .i64 0, .int .i64 0, .int .i64 0, .int .i64 0, .int .i64 0, .int .i64 0, .int .i64 0, .int .i64 0, .int .i64 0, .int .i64 0, .int .i64 0, .int .i64 0, .int .i64 0, .int .i64 0, .int .i64 0, .int .i64 0, .int .i64 0, .int .i64 0, .int .i64 0, .int .i64 0, .int .i64 0, .int .i64 0, .int .i64 0, .int .i64 0, .int .i64 0, .int .i64 0, .int .i64 0, .int .i64 0, .int .i64 0, .int .i64 0, .int .i64 0, .int .i64 0, .int .i64 0, .int .i64 0, .int .i64 0, .int .i64 0, .int .i64 0, .int .i64 0, .int .i64 0, .int .i64 0, .int .i64 0, .int .i64 0, .int .i64 0, .int .i64 0, .int .i64 0, .int .i64 0, .int .i64 0, .int .i64 0, .int .i64 0, .int .i64 0, .int .i64 0, .int .i64 0, .int .i64 0, .int .i64 0, .int .i64 0, .int .i64 0, .int .i64 0, .int .i64 0, .int .i64 0, .int .i64 0, .int .i64 0] 70)).put (2 * M.nb.size) 0 (.int .i64 4096) = some M1' ∧
    ∃ M2', M1'.put (2 * M.nb.size) 1 (.int .i64 4095) = some M2' ∧
    ∃ M3', M2'.put (2 * M.nb.size) 2 (.int .i64 4091) = some M3' ∧
    ∃ M4', M3'.put (2 * M.nb.size) 3 (.int .i64 4085) = some M4' ∧
    ∃ M5', M4'.put (2 * M.nb.size) 4 (.int .i64 4076) = some M5' ∧
    ∃ M6', M5'.put (2 * M.nb.size) 5 (.int .i64 4065) = some M6' ∧
    ∃ M7', M6'.put (2 * M.nb.size) 6 (.int .i64 4052) = some M7' ∧
    ∃ M8', M7'.put (2 * M.nb.size) 7 (.int .i64 4036) = some M8' ∧
    ∃ M9', M8'.put (2 * M.nb.size) 8 (.int .i64 4017) = some M9' ∧
    ∃ M10', M9'.put (2 * M.nb.size) 9 (.int .i64 3996) = some M10' ∧
    ∃ M11', M10'.put (2 * M.nb.size) 10 (.int .i64 3973) = some M11' ∧
    ∃ M12', M11'.put (2 * M.nb.size) 11 (.int .i64 3948) = some M12' ∧
    ∃ M13', M12'.put (2 * M.nb.size) 12 (.int .i64 3920) = some M13' ∧
    ∃ M14', M13'.put (2 * M.nb.size) 13 (.int .i64 3889) = some M14' ∧
    ∃ M15', M14'.put (2 * M.nb.size) 14 (.int .i64 3857) = some M15' ∧
    ∃ M16', M15'.put (2 * M.nb.size) 15 (.int .i64 3822) = some M16' ∧
    ∃ M17', M16'.put (2 * M.nb.size) 16 (.int .i64 3784) = some M17' ∧
    ∃ M18', M17'.put (2 * M.nb.size) 17 (.int .i64 3745) = some M18' ∧
    ∃ M19', M18'.put (2 * M.nb.size) 18 (.int .i64 3703) = some M19' ∧
    ∃ M20', M19'.put (2 * M.nb.size) 19 (.int .i64 3659) = some M20' ∧
    ∃ M21', M20'.put (2 * M.nb.size) 20 (.int .i64 3612) = some M21' ∧
    ∃ M22', M21'.put (2 * M.nb.size) 21 (.int .i64 3564) = some M22' ∧
    ∃ M23', M22'.put (2 * M.nb.size) 22 (.int .i64 3513) = some M23' ∧
    ∃ M24', M23'.put (2 * M.nb.size) 23 (.int .i64 3461) = some M24' ∧
    ∃ M25', M24'.put (2 * M.nb.size) 24 (.int .i64 3406) = some M25' ∧
    ∃ M26', M25'.put (2 * M.nb.size) 25 (.int .i64 3349) = some M26' ∧
    ∃ M27', M26'.put (2 * M.nb.size) 26 (.int .i64 3290) = some M27' ∧
    ∃ M28', M27'.put (2 * M.nb.size) 27 (.int .i64 3229) = some M28' ∧
    ∃ M29', M28'.put (2 * M.nb.size) 28 (.int .i64 3166) = some M29' ∧
    ∃ M30', M29'.put (2 * M.nb.size) 29 (.int .i64 3102) = some M30' ∧
    ∃ M31', M30'.put (2 * M.nb.size) 30 (.int .i64 3035) = some M31' ∧
    ∃ M32', M31'.put (2 * M.nb.size) 31 (.int .i64 2967) = some M32' ∧
    ∃ M33', M32'.put (2 * M.nb.size) 32 (.int .i64 2896) = some M33' ∧
    ∃ M34', M33'.put (2 * M.nb.size) 33 (.int .i64 2824) = some M34' ∧
    ∃ M35', M34'.put (2 * M.nb.size) 34 (.int .i64 2751) = some M35' ∧
    ∃ M36', M35'.put (2 * M.nb.size) 35 (.int .i64 2675) = some M36' ∧
    ∃ M37', M36'.put (2 * M.nb.size) 36 (.int .i64 2598) = some M37' ∧
    ∃ M38', M37'.put (2 * M.nb.size) 37 (.int .i64 2520) = some M38' ∧
    ∃ M39', M38'.put (2 * M.nb.size) 38 (.int .i64 2440) = some M39' ∧
    ∃ M40', M39'.put (2 * M.nb.size) 39 (.int .i64 2359) = some M40' ∧
    ∃ M41', M40'.put (2 * M.nb.size) 40 (.int .i64 2276) = some M41' ∧
    ∃ M42', M41'.put (2 * M.nb.size) 41 (.int .i64 2191) = some M42' ∧
    ∃ M43', M42'.put (2 * M.nb.size) 42 (.int .i64 2106) = some M43' ∧
    ∃ M44', M43'.put (2 * M.nb.size) 43 (.int .i64 2019) = some M44' ∧
    ∃ M45', M44'.put (2 * M.nb.size) 44 (.int .i64 1931) = some M45' ∧
    ∃ M46', M45'.put (2 * M.nb.size) 45 (.int .i64 1842) = some M46' ∧
    ∃ M47', M46'.put (2 * M.nb.size) 46 (.int .i64 1751) = some M47' ∧
    ∃ M48', M47'.put (2 * M.nb.size) 47 (.int .i64 1660) = some M48' ∧
    ∃ M49', M48'.put (2 * M.nb.size) 48 (.int .i64 1567) = some M49' ∧
    ∃ M50', M49'.put (2 * M.nb.size) 49 (.int .i64 1474) = some M50' ∧
    ∃ M51', M50'.put (2 * M.nb.size) 50 (.int .i64 1380) = some M51' ∧
    ∃ M52', M51'.put (2 * M.nb.size) 51 (.int .i64 1285) = some M52' ∧
    ∃ M53', M52'.put (2 * M.nb.size) 52 (.int .i64 1189) = some M53' ∧
    ∃ M54', M53'.put (2 * M.nb.size) 53 (.int .i64 1092) = some M54' ∧
    ∃ M55', M54'.put (2 * M.nb.size) 54 (.int .i64 995) = some M55' ∧
    ∃ M56', M55'.put (2 * M.nb.size) 55 (.int .i64 897) = some M56' ∧
    ∃ M57', M56'.put (2 * M.nb.size) 56 (.int .i64 799) = some M57' ∧
    ∃ M58', M57'.put (2 * M.nb.size) 57 (.int .i64 700) = some M58' ∧
    ∃ M59', M58'.put (2 * M.nb.size) 58 (.int .i64 601) = some M59' ∧
    ∃ M60', M59'.put (2 * M.nb.size) 59 (.int .i64 501) = some M60' ∧
    ∃ M61', M60'.put (2 * M.nb.size) 60 (.int .i64 401) = some M61' ∧
    ∃ M62', M61'.put (2 * M.nb.size) 61 (.int .i64 301) = some M62' ∧
    ∃ M63', M62'.put (2 * M.nb.size) 62 (.int .i64 201) = some M63' ∧
    ∃ M64', M63'.put (2 * M.nb.size) 63 (.int .i64 101) = some M64' ∧
    ∃ M65', M64'.put (2 * M.nb.size) 64 (.int .i64 0) = some M65' ∧
    (((x0.tmod 256) < 0 →
     (((IntKind.i64.wrap ((x0.tmod 256) + 256)) > 128 →
      (((IntKind.i64.wrap (256 - (IntKind.i64.wrap ((x0.tmod 256) + 256)))) > 64 →
       ∃ a66', idxA (some ⟨2 * M.nb.size, 0, none⟩) 65 1 (IntKind.i64.wrap (128 - (IntKind.i64.wrap (256 - (IntKind.i64.wrap ((x0.tmod 256) + 256)))))) = some a66' ∧
       ∃ x67', M65'.intAt .i64 a66'.block a66'.off = some x67' ∧
       Q (.int .i64 (IntKind.i64.wrap (0 - x67'))) M65') ∧
       (¬ ((IntKind.i64.wrap (256 - (IntKind.i64.wrap ((x0.tmod 256) + 256)))) > 64) →
       ∃ a68', idxA (some ⟨2 * M.nb.size, 0, none⟩) 65 1 (IntKind.i64.wrap (256 - (IntKind.i64.wrap ((x0.tmod 256) + 256)))) = some a68' ∧
       ∃ x69', M65'.intAt .i64 a68'.block a68'.off = some x69' ∧
       Q (.int .i64 (x69')) M65'))) ∧
      (¬ ((IntKind.i64.wrap ((x0.tmod 256) + 256)) > 128) →
      (((IntKind.i64.wrap ((x0.tmod 256) + 256)) > 64 →
       ∃ a70', idxA (some ⟨2 * M.nb.size, 0, none⟩) 65 1 (IntKind.i64.wrap (128 - (IntKind.i64.wrap ((x0.tmod 256) + 256)))) = some a70' ∧
       ∃ x71', M65'.intAt .i64 a70'.block a70'.off = some x71' ∧
       Q (.int .i64 (IntKind.i64.wrap (0 - x71'))) M65') ∧
       (¬ ((IntKind.i64.wrap ((x0.tmod 256) + 256)) > 64) →
       ∃ a72', idxA (some ⟨2 * M.nb.size, 0, none⟩) 65 1 (IntKind.i64.wrap ((x0.tmod 256) + 256)) = some a72' ∧
       ∃ x73', M65'.intAt .i64 a72'.block a72'.off = some x73' ∧
       Q (.int .i64 (x73')) M65'))))) ∧
     (¬ ((x0.tmod 256) < 0) →
     (((x0.tmod 256) > 128 →
      (((IntKind.i64.wrap (256 - (x0.tmod 256))) > 64 →
       ∃ a74', idxA (some ⟨2 * M.nb.size, 0, none⟩) 65 1 (IntKind.i64.wrap (128 - (IntKind.i64.wrap (256 - (x0.tmod 256))))) = some a74' ∧
       ∃ x75', M65'.intAt .i64 a74'.block a74'.off = some x75' ∧
       Q (.int .i64 (IntKind.i64.wrap (0 - x75'))) M65') ∧
       (¬ ((IntKind.i64.wrap (256 - (x0.tmod 256))) > 64) →
       ∃ a76', idxA (some ⟨2 * M.nb.size, 0, none⟩) 65 1 (IntKind.i64.wrap (256 - (x0.tmod 256))) = some a76' ∧
       ∃ x77', M65'.intAt .i64 a76'.block a76'.off = some x77' ∧
       Q (.int .i64 (x77')) M65'))) ∧
      (¬ ((x0.tmod 256) > 128) →
      (((x0.tmod 256) > 64 →
       ∃ a78', idxA (some ⟨2 * M.nb.size, 0, none⟩) 65 1 (IntKind.i64.wrap (128 - (x0.tmod 256))) = some a78' ∧
       ∃ x79', M65'.intAt .i64 a78'.block a78'.off = some x79' ∧
       Q (.int .i64 (IntKind.i64.wrap (0 - x79'))) M65') ∧
       (¬ ((x0.tmod 256) > 64) →
       ∃ a80', idxA (some ⟨2 * M.nb.size, 0, none⟩) 65 1 (x0.tmod 256) = some a80' ∧
       ∃ x81', M65'.intAt .i64 a80'.block a80'.off = some x81' ∧
       Q (.int .i64 (x81')) M65'))))))) :
    Cn Try.prog 74 #[.int .i64 x0] M Q := by
  refine Cn.of b74 d74 t74 ?_
  refine Rn.seq k74_0 (Rn.region k74_1 (fun call K => r74_0) (Rch.leaf (Rn.seq k74_2 (Rn.region k74_3 (fun call K => r74_1) (Rch.ex H fun M1' H => Rch.ex H fun M2' H => Rch.ex H fun M3' H => Rch.ex H fun M4' H => Rch.ex H fun M5' H => Rch.ex H fun M6' H => Rch.ex H fun M7' H => ?_)))))
  refine Rch.ex H fun M8' H => Rch.ex H fun M9' H => Rch.ex H fun M10' H => Rch.ex H fun M11' H => Rch.ex H fun M12' H => Rch.ex H fun M13' H => Rch.ex H fun M14' H => Rch.ex H fun M15' H => Rch.ex H fun M16' H => Rch.ex H fun M17' H => Rch.ex H fun M18' H => Rch.ex H fun M19' H => ?_
  refine Rch.ex H fun M20' H => Rch.ex H fun M21' H => Rch.ex H fun M22' H => Rch.ex H fun M23' H => Rch.ex H fun M24' H => Rch.ex H fun M25' H => Rch.ex H fun M26' H => Rch.ex H fun M27' H => Rch.ex H fun M28' H => Rch.ex H fun M29' H => Rch.ex H fun M30' H => Rch.ex H fun M31' H => ?_
  refine Rch.ex H fun M32' H => Rch.ex H fun M33' H => Rch.ex H fun M34' H => Rch.ex H fun M35' H => Rch.ex H fun M36' H => Rch.ex H fun M37' H => Rch.ex H fun M38' H => Rch.ex H fun M39' H => Rch.ex H fun M40' H => Rch.ex H fun M41' H => Rch.ex H fun M42' H => Rch.ex H fun M43' H => ?_
  refine Rch.ex H fun M44' H => Rch.ex H fun M45' H => Rch.ex H fun M46' H => Rch.ex H fun M47' H => Rch.ex H fun M48' H => Rch.ex H fun M49' H => Rch.ex H fun M50' H => Rch.ex H fun M51' H => Rch.ex H fun M52' H => Rch.ex H fun M53' H => Rch.ex H fun M54' H => Rch.ex H fun M55' H => ?_
  refine Rch.ex H fun M56' H => Rch.ex H fun M57' H => Rch.ex H fun M58' H => Rch.ex H fun M59' H => Rch.ex H fun M60' H => Rch.ex H fun M61' H => Rch.ex H fun M62' H => Rch.ex H fun M63' H => Rch.ex H fun M64' H => Rch.ex H fun M65' H => Rch.leaf (Rn.seq k74_4 ?_)
  refine Rn.region k74_5 (fun call K => r74_2) (Rch.leaf (Rn.seq k74_6 (Rn.seq k74_7 (Rn.region k74_8 (fun call K => r74_3) (Rch.leaf ?_)))))
  refine Rn.cnd (v := decide ((x0.tmod 256) < 0)) ⟨c74_9, rfl, by kernel_rfl⟩ (fun h => ?_) (fun h => ?_)
  · replace H := H.1 (of_decide_eq_true h)
    refine Rn.region k74_10 (fun call K => r74_4) (Rch.leaf (Rn.seq k74_11 (Rn.seq k74_12 (Rn.region k74_13 (fun call K => r74_5) (Rch.leaf ?_)))))
    refine Rn.cnd (v := decide ((IntKind.i64.wrap ((x0.tmod 256) + 256)) > 128)) ⟨c74_14, rfl, by kernel_rfl⟩ (fun h => ?_) (fun h => ?_)
    · replace H := H.1 (of_decide_eq_true h)
      refine Rn.region k74_15 (fun call K => r74_6) (Rch.leaf (Rn.seq k74_16 (Rn.seq k74_17 (Rn.region k74_18 (fun call K => r74_7) (Rch.leaf ?_)))))
      refine Rn.cnd (v := decide ((IntKind.i64.wrap (256 - (IntKind.i64.wrap ((x0.tmod 256) + 256)))) > 64)) ⟨c74_19, rfl, by kernel_rfl⟩ (fun h => ?_) (fun h => ?_)
      · replace H := H.1 (of_decide_eq_true h)
        refine Rn.seq k74_20 (Rn.region k74_21 (fun call K => r74_8) (Rch.ex H fun a66' H => Rch.ex H fun x67' H => Rch.leaf ?_))
        exact Rn.ret k74_22 e74 H
      · replace H := H.2 (of_decide_eq_false h)
        refine Rn.skip k74_24 (Rn.seq k74_25 (Rn.region k74_26 (fun call K => r74_9) (Rch.ex H fun a68' H => Rch.ex H fun x69' H => Rch.leaf ?_)))
        exact Rn.ret k74_27 e74 H
    · replace H := H.2 (of_decide_eq_false h)
      refine Rn.skip k74_28 (Rn.seq k74_16 (Rn.seq k74_17 (Rn.region k74_18 (fun call K => r74_7) (Rch.leaf ?_))))
      refine Rn.cnd (v := decide ((IntKind.i64.wrap ((x0.tmod 256) + 256)) > 64)) ⟨c74_19, rfl, by kernel_rfl⟩ (fun h => ?_) (fun h => ?_)
      · replace H := H.1 (of_decide_eq_true h)
        refine Rn.seq k74_20 (Rn.region k74_21 (fun call K => r74_8) (Rch.ex H fun a70' H => Rch.ex H fun x71' H => Rch.leaf ?_))
        exact Rn.ret k74_22 e74 H
      · replace H := H.2 (of_decide_eq_false h)
        refine Rn.skip k74_24 (Rn.seq k74_25 (Rn.region k74_26 (fun call K => r74_9) (Rch.ex H fun a72' H => Rch.ex H fun x73' H => Rch.leaf ?_)))
        exact Rn.ret k74_27 e74 H
  · replace H := H.2 (of_decide_eq_false h)
    refine Rn.skip k74_29 (Rn.seq k74_11 (Rn.seq k74_12 (Rn.region k74_13 (fun call K => r74_5) (Rch.leaf ?_))))
    refine Rn.cnd (v := decide ((x0.tmod 256) > 128)) ⟨c74_14, rfl, by kernel_rfl⟩ (fun h => ?_) (fun h => ?_)
    · replace H := H.1 (of_decide_eq_true h)
      refine Rn.region k74_15 (fun call K => r74_6) (Rch.leaf (Rn.seq k74_16 (Rn.seq k74_17 (Rn.region k74_18 (fun call K => r74_7) (Rch.leaf ?_)))))
      refine Rn.cnd (v := decide ((IntKind.i64.wrap (256 - (x0.tmod 256))) > 64)) ⟨c74_19, rfl, by kernel_rfl⟩ (fun h => ?_) (fun h => ?_)
      · replace H := H.1 (of_decide_eq_true h)
        refine Rn.seq k74_20 (Rn.region k74_21 (fun call K => r74_8) (Rch.ex H fun a74' H => Rch.ex H fun x75' H => Rch.leaf ?_))
        exact Rn.ret k74_22 e74 H
      · replace H := H.2 (of_decide_eq_false h)
        refine Rn.skip k74_24 (Rn.seq k74_25 (Rn.region k74_26 (fun call K => r74_9) (Rch.ex H fun a76' H => Rch.ex H fun x77' H => Rch.leaf ?_)))
        exact Rn.ret k74_27 e74 H
    · replace H := H.2 (of_decide_eq_false h)
      refine Rn.skip k74_28 (Rn.seq k74_16 (Rn.seq k74_17 (Rn.region k74_18 (fun call K => r74_7) (Rch.leaf ?_))))
      refine Rn.cnd (v := decide ((x0.tmod 256) > 64)) ⟨c74_19, rfl, by kernel_rfl⟩ (fun h => ?_) (fun h => ?_)
      · replace H := H.1 (of_decide_eq_true h)
        refine Rn.seq k74_20 (Rn.region k74_21 (fun call K => r74_8) (Rch.ex H fun a78' H => Rch.ex H fun x79' H => Rch.leaf ?_))
        exact Rn.ret k74_22 e74 H
      · replace H := H.2 (of_decide_eq_false h)
        refine Rn.skip k74_24 (Rn.seq k74_25 (Rn.region k74_26 (fun call K => r74_9) (Rch.ex H fun a80' H => Rch.ex H fun x81' H => Rch.leaf ?_)))
        exact Rn.ret k74_27 e74 H


/-! ### zoetrope/zoetroperef00.CopyInts: function 11 -/
noncomputable abbrev P11 (p : List Nat) : Code := subC (codeOf Try.f11) p
noncomputable abbrev O11 (p : List Nat) : Array Oper := opsOf (subC (codeOf Try.f11) p)
theorem b11 : Try.prog.funcs[11]? = some Try.f11 ∧ (Orc.tab Try.prog).lookup 11 = none := ⟨by kernel_rfl, by kernel_rfl⟩
theorem d11 : Try.f11.body = some (P11 []) := by kernel_rfl
theorem t11 {Ax0 : Option Addr} {lx0 cx0 : Nat} : #[.slice Ax0 lx0 cx0] ++ Array.replicate (Try.f11.ntmps - (#[.slice Ax0 lx0 cx0] : Array Value).size) undef = #[.slice Ax0 lx0 cx0,undef,undef,undef,undef,undef,undef,undef] := by kernel_rfl
theorem k11_0 : P11 [] = .seq (P11 [0]) (P11 [1]) := by kernel_rfl
theorem k11_1 : P11 [0] = .region 0 (O11 [0]) false := by kernel_rfl
theorem r11_0 {M : Mem} {call : CallM} {K : Array Value → Mem → R} :
    opsK Try.prog (fun _ => call) (O11 [0]) (O11 [0]).toList 0 #[g0,g1,g2,g3,g4,g5,g6,g7] M K = K #[g0,g1,.slice none 0 0,g3,g4,g5,g6,g7] M := by kernel_rfl
theorem k11_2 : P11 [1] = .seq (P11 [1,0]) (P11 [1,1]) := by kernel_rfl
theorem k11_3 : P11 [1,0] = .region 1 (O11 [1,0]) false := by kernel_rfl
theorem r11_1 {M : Mem} {call : CallM} {K : Array Value → Mem → R} :
    opsK Try.prog (fun _ => call) (O11 [1,0]) (O11 [1,0]).toList 0 #[g0,g1,g2,g3,g4,g5,g6,g7] M K = K #[g0,g1,g2,.slice none 0 0,g4,g5,g6,g7] M := by kernel_rfl
theorem k11_4 : P11 [1,1] = .seq (P11 [1,1,0]) (P11 [1,1,1]) := by kernel_rfl
theorem k11_5 : P11 [1,1,0] = .region 2 (O11 [1,1,0]) false := by kernel_rfl
theorem r11_2 {Ax0 : Option Addr} {lx0 cx0 : Nat} {Ax3 : Option Addr} {lx3 cx3 : Nat} {M : Mem} {call : CallM} {K : Array Value → Mem → R} :
    opsK Try.prog (fun _ => call) (O11 [1,1,0]) (O11 [1,1,0]).toList 0 #[.slice Ax0 lx0 cx0,g1,g2,.slice Ax3 lx3 cx3,g4,g5,g6,g7] M K = (appendP Try.prog #[22, 22] (.slice Ax3 lx3 cx3) (.slice Ax0 lx0 cx0) M).bind fun r_1 => (asS r_1.1).bind fun s_2 => K #[.slice Ax0 lx0 cx0,g1,g2,.slice s_2.1 (s_2.2.1) (s_2.2.2),.slice Ax3 lx3 cx3,.slice Ax0 lx0 cx0,.slice s_2.1 (s_2.2.1) (s_2.2.2),g7] r_1.2 := by kernel_rfl
theorem k11_6 : P11 [1,1,1] = .seq (P11 [1,1,1,0]) (P11 [1,1,1,1]) := by kernel_rfl
theorem k11_7 : P11 [1,1,1,0] = .region 3 (O11 [1,1,1,0]) false := by kernel_rfl
theorem r11_3 {Ax3 : Option Addr} {lx3 cx3 : Nat} {M : Mem} {call : CallM} {K : Array Value → Mem → R} :
    opsK Try.prog (fun _ => call) (O11 [1,1,1,0]) (O11 [1,1,1,0]).toList 0 #[g0,g1,g2,.slice Ax3 lx3 cx3,g4,g5,g6,g7] M K = K #[g0,g1,.slice Ax3 lx3 cx3,.slice Ax3 lx3 cx3,g4,g5,g6,.slice Ax3 lx3 cx3] M := by kernel_rfl
theorem k11_8 : P11 [1,1,1,1] = .ret := by kernel_rfl
theorem e11 {M : Mem} : finish Try.prog Try.f11 #[g0,g1,g2,g3,g4,g5,g6,g7] M = some (g2, M) := by kernel_rfl
theorem w11_0 {Ax0 : Option Addr} {lx0 cx0 : Nat} {M : Mem} {Q : Value → Mem → Prop} (H :
    ∃ r1', appendP Try.prog #[22, 22] (.slice none 0 0) (.slice Ax0 lx0 cx0) M = some r1' ∧
    ∃ s2', asS r1'.1 = some s2' ∧
    Q (.slice s2'.1 (s2'.2.1) (s2'.2.2)) r1'.2) :
    Cn Try.prog 11 #[.slice Ax0 lx0 cx0] M Q := by
  refine Cn.of b11 d11 t11 ?_
  refine Rn.seq k11_0 (Rn.region k11_1 (fun call K => r11_0) (Rch.leaf (Rn.seq k11_2 (Rn.region k11_3 (fun call K => r11_1) (Rch.leaf (Rn.seq k11_4 (Rn.region k11_5 (fun call K => r11_2) (Rch.ex H fun r1' H => Rch.ex H fun s2' H => Rch.leaf (Rn.seq k11_6 ?_)))))))))
  refine Rn.region k11_7 (fun call K => r11_3) (Rch.leaf ?_)
  exact Rn.ret k11_8 e11 H


end Go.Zt

