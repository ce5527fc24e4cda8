/- The functions' walks: for each function and each loop a rule of what it comes to. Printed by zw.py. -/
import Derived.Test.YtpfhalehdgcbeaaProg
import Derived.Test.YtpfhalehdgcbeaaZgA
set_option linter.unusedVariables false
set_option maxRecDepth 100000
namespace Go.Zt
open Go Go.Sim Go.Proofs

variable {g0 g1 g2 g3 g4 g5 g6 g7 g8 g9 gA gB gC gD gE gF gG gH gI gJ gK gL gM gN gO gP gQ gR gS gT gU gV gW gX gY gZ hA hB hC hD hE hF hG hH hI hJ hK hL hM hN hO hP hQ hR hS hT hU hV hW hX hY hZ h0 h1 h2 h3 h4 h5 h6 h7 h8 h9 jA jB jC jD jE jF jG jH jI jJ jK jL jM jN jO jP jQ jR jS jT jU jV jW jX jY jZ j0 j1 j2 j3 j4 j5 j6 j7 j8 j9 kA : Value}
/-! ### zoetrope/zoetroperef07.Weights: function 39 -/
noncomputable abbrev P39 (p : List Nat) : Code := subC (codeOf Try.f39) p
noncomputable abbrev O39 (p : List Nat) : Array Oper := opsOf (subC (codeOf Try.f39) p)
theorem b39 : Try.prog.funcs[39]? = some Try.f39 ∧ (Orc.tab Try.prog).lookup 39 = none := ⟨by kernel_rfl, by kernel_rfl⟩
theorem d39 : Try.f39.body = some (P39 []) := by kernel_rfl
theorem t39 {x0 x1 : Int} : #[.int .i64 x0,.int .i64 x1] ++ Array.replicate (Try.f39.ntmps - (#[.int .i64 x0,.int .i64 x1] : Array Value).size) undef = #[.int .i64 x0,.int .i64 x1,undef,undef,undef,undef,undef,undef,undef,undef] := by kernel_rfl
theorem k39_0 : P39 [] = .seq (P39 [0]) (P39 [1]) := by kernel_rfl
theorem k39_1 : P39 [0] = .region 0 (O39 [0]) false := by kernel_rfl
theorem r39_0 {M : Mem} {call : CallM} {K : Array Value → Mem → R} :
    opsK Try.prog (fun _ => call) (O39 [0]) (O39 [0]).toList 0 #[g0,g1,g2,g3,g4,g5,g6,g7,g8,g9] M K = K #[g0,g1,g2,g3,.slice none 0 0,g5,g6,g7,g8,g9] M := by kernel_rfl
theorem k39_2 : P39 [1] = .seq (P39 [1,0]) (P39 [1,1]) := by kernel_rfl
theorem k39_3 : P39 [1,0] = .seq (P39 [1,0,0]) (P39 [1,0,1]) := by kernel_rfl
theorem k39_4 : P39 [1,0,0] = .region 1 (O39 [1,0,0]) false := by kernel_rfl
theorem r39_1 {x0 : Int} {M : Mem} {call : CallM} {K : Array Value → Mem → R} :
    opsK Try.prog (fun _ => call) (O39 [1,0,0]) (O39 [1,0,0]).toList 0 #[.int .i64 x0,g1,g2,g3,g4,g5,g6,g7,g8,g9] M K = K #[.int .i64 x0,g1,g2,g3,g4,.int .i64 x0,.bool (x0 == 3),g7,g8,g9] M := by kernel_rfl
theorem c39_5 : P39 [1,0,1] = .cond (.tmp 6) (P39 [1,0,1,0]) (P39 [1,0,1,1]) := by kernel_rfl
theorem k39_6 : P39 [1,0,1,0] = .seq (P39 [1,0,1,0,0]) (P39 [1,0,1,0,1]) := by kernel_rfl
theorem k39_7 : P39 [1,0,1,0,0] = .region 2 (O39 [1,0,1,0,0]) false := by kernel_rfl
theorem r39_2 {M : Mem} {call : CallM} {K : Array Value → Mem → R} :
    opsK Try.prog (fun _ => call) (O39 [1,0,1,0,0]) (O39 [1,0,1,0,0]).toList 0 #[g0,g1,g2,g3,g4,g5,g6,g7,g8,g9] M K = K #[g0,g1,g2,g3,.slice none 0 0,g5,g6,g7,g8,g9] M := by kernel_rfl
theorem k39_8 : P39 [1,0,1,0,1] = .ret := by kernel_rfl
theorem e39 {M : Mem} : finish Try.prog Try.f39 #[g0,g1,g2,g3,g4,g5,g6,g7,g8,g9] M = some (g4, M) := by kernel_rfl
theorem k39_10 : P39 [1,0,1,1] = .skip := by kernel_rfl
theorem k39_11 : P39 [1,1] = .seq (P39 [1,1,0]) (P39 [1,1,1]) := by kernel_rfl
theorem k39_12 : P39 [1,1,0] = .region 3 (O39 [1,1,0]) false := by kernel_rfl
theorem r39_3 {x0 x1 : Int} {M : Mem} {call : CallM} {K : Array Value → Mem → R} :
    opsK Try.prog (fun _ => call) (O39 [1,1,0]) (O39 [1,1,0]).toList 0 #[.int .i64 x0,.int .i64 x1,g2,g3,g4,g5,g6,g7,g8,g9] M K = (call 55 #[.int .i64 x0, .int .i64 x1] M).bind fun r_1 => (asS r_1.1).bind fun s_2 => K #[.int .i64 x0,.int .i64 x1,g2,g3,.slice s_2.1 (s_2.2.1) (s_2.2.2),g5,g6,.int .i64 x0,.int .i64 x1,.slice s_2.1 (s_2.2.1) (s_2.2.2)] r_1.2 := by kernel_rfl
theorem k39_13 : P39 [1,1,1] = .ret := by kernel_rfl
theorem w39_0 {x0 x1 : Int} {M : Mem} {Q : Value → Mem → Prop} (H :
    ((x0 = 3 →
     Q (.slice none 0 0) M) ∧
     (x0 ≠ 3 →
     Cn Try.prog 55 #[.int .i64 x0, .int .i64 x1] M fun v1' N1' =>
      ∃ s2', asS v1' = some s2' ∧
      Q (.slice s2'.1 (s2'.2.1) (s2'.2.2)) N1'))) :
    Cn Try.prog 39 #[.int .i64 x0, .int .i64 x1] M Q := by
  refine Cn.of b39 d39 t39 ?_
  refine Rn.seq k39_0 (Rn.region k39_1 (fun call K => r39_0) (Rch.leaf (Rn.seq k39_2 (Rn.seq k39_3 (Rn.region k39_4 (fun call K => r39_1) (Rch.leaf ?_))))))
  refine Rn.cnd (v := x0 == 3) ⟨c39_5, rfl, by kernel_rfl⟩ (fun h => ?_) (fun h => ?_)
  · replace H := H.1 (eq_of_beq h)
    refine Rn.seq k39_6 (Rn.region k39_7 (fun call K => r39_2) (Rch.leaf ?_))
    exact Rn.ret k39_8 e39 H
  · replace H := H.2 (ne_of_beq_false h)
    refine Rn.skip k39_10 (Rn.seq k39_11 (Rn.region k39_12 (fun call K => r39_3) (Rch.call H fun v1' N1' H => Rch.ex H fun s2' H => Rch.leaf ?_)))
    exact Rn.ret k39_13 e39 H


/-! ### zoetrope/zoetroperef07.On: function 47 -/
noncomputable abbrev P47 (p : List Nat) : Code := subC (codeOf Try.f47) p
noncomputable abbrev O47 (p : List Nat) : Array Oper := opsOf (subC (codeOf Try.f47) p)
theorem b47 : Try.prog.funcs[47]? = some Try.f47 ∧ (Orc.tab Try.prog).lookup 47 = none := ⟨by kernel_rfl, by kernel_rfl⟩
theorem d47 : Try.f47.body = some (P47 []) := by kernel_rfl
theorem t47 {Ax0 : Option Addr} {lx0 cx0 : Nat} {Ax1 : Option Addr} {lx1 cx1 : Nat} : #[.slice Ax0 lx0 cx0,.slice Ax1 lx1 cx1] ++ Array.replicate (Try.f47.ntmps - (#[.slice Ax0 lx0 cx0,.slice Ax1 lx1 cx1] : Array Value).size) undef = #[.slice Ax0 lx0 cx0,.slice Ax1 lx1 cx1,undef,undef,undef,undef,undef,undef,undef,undef,undef,undef,undef,undef,undef,undef,undef,undef,undef,undef,undef,undef,undef,undef,undef,undef,undef,undef,undef,undef,undef,undef,undef,undef,undef,undef,undef,undef,undef,undef,undef,undef,undef,undef,undef,undef,undef,undef,undef,undef,undef,undef,undef,undef,undef,undef,undef,undef,undef,undef,undef,undef,undef,undef,undef,undef,undef,undef,undef,undef,undef,undef,undef,undef,undef,undef,undef,undef,undef,undef,undef,undef,undef,undef,undef,undef,undef,undef,undef] := by kernel_rfl
theorem k47_0 : P47 [] = .seq (P47 [0]) (P47 [1]) := by kernel_rfl
theorem k47_1 : P47 [0] = .region 0 (O47 [0]) false := by kernel_rfl
theorem r47_0 {M : Mem} {call : CallM} {K : Array Value → Mem → R} :
    opsK Try.prog (fun _ => call) (O47 [0]) (O47 [0]).toList 0 #[g0,g1,g2,g3,g4,g5,g6,g7,g8,g9,gA,gB,gC,gD,gE,gF,gG,gH,gI,gJ,gK,gL,gM,gN,gO,gP,gQ,gR,gS,gT,gU,gV,gW,gX,gY,gZ,hA,hB,hC,hD,hE,hF,hG,hH,hI,hJ,hK,hL,hM,hN,hO,hP,hQ,hR,hS,hT,hU,hV,hW,hX,hY,hZ,h0,h1,h2,h3,h4,h5,h6,h7,h8,h9,jA,jB,jC,jD,jE,jF,jG,jH,jI,jJ,jK,jL,jM,jN,jO,jP,jQ] M K = K #[g0,g1,g2,g3,.slice none 0 0,g5,g6,g7,g8,g9,gA,gB,gC,gD,gE,gF,gG,gH,gI,gJ,gK,gL,gM,gN,gO,gP,gQ,gR,gS,gT,gU,gV,gW,gX,gY,gZ,hA,hB,hC,hD,hE,hF,hG,hH,hI,hJ,hK,hL,hM,hN,hO,hP,hQ,hR,hS,hT,hU,hV,hW,hX,hY,hZ,h0,h1,h2,h3,h4,h5,h6,h7,h8,h9,jA,jB,jC,jD,jE,jF,jG,jH,jI,jJ,jK,jL,jM,jN,jO,jP,jQ] M := by kernel_rfl
theorem k47_2 : P47 [1] = .seq (P47 [1,0]) (P47 [1,1]) := by kernel_rfl
theorem k47_3 : P47 [1,0] = .seq (P47 [1,0,0]) (P47 [1,0,1]) := by kernel_rfl
theorem k47_4 : P47 [1,0,0] = .region 1 (O47 [1,0,0]) false := by kernel_rfl
theorem r47_1 {Ax0 : Option Addr} {lx0 cx0 : Nat} {M : Mem} {call : CallM} {K : Array Value → Mem → R} :
    opsK Try.prog (fun _ => call) (O47 [1,0,0]) (O47 [1,0,0]).toList 0 #[.slice Ax0 lx0 cx0,g1,g2,g3,g4,g5,g6,g7,g8,g9,gA,gB,gC,gD,gE,gF,gG,gH,gI,gJ,gK,gL,gM,gN,gO,gP,gQ,gR,gS,gT,gU,gV,gW,gX,gY,gZ,hA,hB,hC,hD,hE,hF,hG,hH,hI,hJ,hK,hL,hM,hN,hO,hP,hQ,hR,hS,hT,hU,hV,hW,hX,hY,hZ,h0,h1,h2,h3,h4,h5,h6,h7,h8,h9,jA,jB,jC,jD,jE,jF,jG,jH,jI,jJ,jK,jL,jM,jN,jO,jP,jQ] M K = K #[.slice Ax0 lx0 cx0,g1,g2,g3,g4,g5,g6,g7,g8,g9,gA,gB,gC,gD,gE,.slice Ax0 lx0 cx0,.int .i64 ((lx0 : Int)),.bool (((lx0 : Int)) == 0),gI,gJ,gK,gL,gM,gN,gO,gP,gQ,gR,gS,gT,gU,gV,gW,gX,gY,gZ,hA,hB,hC,hD,hE,hF,hG,hH,hI,hJ,hK,hL,hM,hN,hO,hP,hQ,hR,hS,hT,hU,hV,hW,hX,hY,hZ,h0,h1,h2,h3,h4,h5,h6,h7,h8,h9,jA,jB,jC,jD,jE,jF,jG,jH,jI,jJ,jK,jL,jM,jN,jO,jP,jQ] M := by kernel_rfl
theorem c47_5 : P47 [1,0,1] = .cond (.tmp 17) (P47 [1,0,1,0]) (P47 [1,0,1,1]) := by kernel_rfl
theorem k47_6 : P47 [1,0,1,0] = .seq (P47 [1,0,1,0,0]) (P47 [1,0,1,0,1]) := by kernel_rfl
theorem k47_7 : P47 [1,0,1,0,0] = .region 2 (O47 [1,0,1,0,0]) true ∧ drawOk (O47 [1,0,1,0,0]) = true := ⟨by kernel_rfl, by kernel_rfl⟩
theorem r47_2 {Ax1 : Option Addr} {lx1 cx1 : Nat} {M : Mem} {call : CallM} {K : Array Value → Mem → R} :
    opsI Try.prog (callAt call (O47 [1,0,1,0,0])) (O47 [1,0,1,0,0]) (ordOf (O47 [1,0,1,0,0])) [] #[g0,.slice Ax1 lx1 cx1,g2,g3,g4,g5,g6,g7,g8,g9,gA,gB,gC,gD,gE,gF,gG,gH,gI,gJ,gK,gL,gM,gN,gO,gP,gQ,gR,gS,gT,gU,gV,gW,gX,gY,gZ,hA,hB,hC,hD,hE,hF,hG,hH,hI,hJ,hK,hL,hM,hN,hO,hP,hQ,hR,hS,hT,hU,hV,hW,hX,hY,hZ,h0,h1,h2,h3,h4,h5,h6,h7,h8,h9,jA,jB,jC,jD,jE,jF,jG,jH,jI,jJ,jK,jL,jM,jN,jO,jP,jQ] M K = (idxA Ax1 lx1 1 0).bind fun a_1 => (M.intAt .i64 a_1.block a_1.off).bind fun x_2 => (idxA Ax1 lx1 1 1).bind fun a_3 => (M.intAt .i64 a_3.block a_3.off).bind fun x_4 => (idxA Ax1 lx1 1 2).bind fun a_5 => (M.intAt .i64 a_5.block a_5.off).bind fun x_6 => (idxA Ax1 lx1 1 3).bind fun a_7 => (M.intAt .i64 a_7.block a_7.off).bind fun x_8 => K #[g0,.slice Ax1 lx1 cx1,g2,g3,g4,.int .i64 x_2,.int .i64 x_4,.int .i64 x_6,.int .i64 x_8,g9,gA,gB,gC,gD,gE,gF,gG,gH,.slice Ax1 lx1 cx1,.pointer (some a_1),.int .i64 x_2,.slice Ax1 lx1 cx1,.pointer (some a_3),.int .i64 x_4,.slice Ax1 lx1 cx1,.pointer (some a_5),.int .i64 x_6,.slice Ax1 lx1 cx1,.pointer (some a_7),.int .i64 x_8,gU,gV,gW,gX,gY,gZ,hA,hB,hC,hD,hE,hF,hG,hH,hI,hJ,hK,hL,hM,hN,hO,hP,hQ,hR,hS,hT,hU,hV,hW,hX,hY,hZ,h0,h1,h2,h3,h4,h5,h6,h7,h8,h9,jA,jB,jC,jD,jE,jF,jG,jH,jI,jJ,jK,jL,jM,jN,jO,jP,jQ] M := by kernel_rfl
theorem k47_8 : P47 [1,0,1,0,1] = .seq (P47 [1,0,1,0,1,0]) (P47 [1,0,1,0,1,1]) := by kernel_rfl
theorem k47_9 : P47 [1,0,1,0,1,0] = .region 3 (O47 [1,0,1,0,1,0]) false := by kernel_rfl
theorem r47_3 {x5 x6 : Int} {M : Mem} {call : CallM} {K : Array Value → Mem → R} :
    opsK Try.prog (fun _ => call) (O47 [1,0,1,0,1,0]) (O47 [1,0,1,0,1,0]).toList 0 #[g0,g1,g2,g3,g4,.int .i64 x5,.int .i64 x6,g7,g8,g9,gA,gB,gC,gD,gE,gF,gG,gH,gI,gJ,gK,gL,gM,gN,gO,gP,gQ,gR,gS,gT,gU,gV,gW,gX,gY,gZ,hA,hB,hC,hD,hE,hF,hG,hH,hI,hJ,hK,hL,hM,hN,hO,hP,hQ,hR,hS,hT,hU,hV,hW,hX,hY,hZ,h0,h1,h2,h3,h4,h5,h6,h7,h8,h9,jA,jB,jC,jD,jE,jF,jG,jH,jI,jJ,jK,jL,jM,jN,jO,jP,jQ] M K = K #[g0,g1,g2,g3,g4,.int .i64 (IntKind.i64.wrap (x5 + x6)),.int .i64 x6,g7,g8,g9,gA,gB,gC,gD,gE,gF,gG,gH,gI,gJ,gK,gL,gM,gN,gO,gP,gQ,gR,gS,gT,.int .i64 x5,.int .i64 x6,.int .i64 (IntKind.i64.wrap (x5 + x6)),gX,gY,gZ,hA,hB,hC,hD,hE,hF,hG,hH,hI,hJ,hK,hL,hM,hN,hO,hP,hQ,hR,hS,hT,hU,hV,hW,hX,hY,hZ,h0,h1,h2,h3,h4,h5,h6,h7,h8,h9,jA,jB,jC,jD,jE,jF,jG,jH,jI,jJ,jK,jL,jM,jN,jO,jP,jQ] M := by kernel_rfl
theorem k47_10 : P47 [1,0,1,0,1,1] = .seq (P47 [1,0,1,0,1,1,0]) (P47 [1,0,1,0,1,1,1]) := by kernel_rfl
theorem k47_11 : P47 [1,0,1,0,1,1,0] = .region 4 (O47 [1,0,1,0,1,1,0]) false := by kernel_rfl
theorem r47_4 {x7 x8 : Int} {M : Mem} {call : CallM} {K : Array Value → Mem → R} :
    opsK Try.prog (fun _ => call) (O47 [1,0,1,0,1,1,0]) (O47 [1,0,1,0,1,1,0]).toList 0 #[g0,g1,g2,g3,g4,g5,g6,.int .i64 x7,.int .i64 x8,g9,gA,gB,gC,gD,gE,gF,gG,gH,gI,gJ,gK,gL,gM,gN,gO,gP,gQ,gR,gS,gT,gU,gV,gW,gX,gY,gZ,hA,hB,hC,hD,hE,hF,hG,hH,hI,hJ,hK,hL,hM,hN,hO,hP,hQ,hR,hS,hT,hU,hV,hW,hX,hY,hZ,h0,h1,h2,h3,h4,h5,h6,h7,h8,h9,jA,jB,jC,jD,jE,jF,jG,jH,jI,jJ,jK,jL,jM,jN,jO,jP,jQ] M K = K #[g0,g1,g2,g3,g4,g5,g6,.int .i64 x7,.int .i64 (IntKind.i64.wrap (x8 - x7)),g9,gA,gB,gC,gD,gE,gF,gG,gH,gI,gJ,gK,gL,gM,gN,gO,gP,gQ,gR,gS,gT,gU,gV,gW,.int .i64 x8,.int .i64 x7,.int .i64 (IntKind.i64.wrap (x8 - x7)),hA,hB,hC,hD,hE,hF,hG,hH,hI,hJ,hK,hL,hM,hN,hO,hP,hQ,hR,hS,hT,hU,hV,hW,hX,hY,hZ,h0,h1,h2,h3,h4,h5,h6,h7,h8,h9,jA,jB,jC,jD,jE,jF,jG,jH,jI,jJ,jK,jL,jM,jN,jO,jP,jQ] M := by kernel_rfl
theorem k47_12 : P47 [1,0,1,0,1,1,1] = .seq (P47 [1,0,1,0,1,1,1,0]) (P47 [1,0,1,0,1,1,1,1]) := by kernel_rfl
theorem k47_13 : P47 [1,0,1,0,1,1,1,0] = .region 5 (O47 [1,0,1,0,1,1,1,0]) false := by kernel_rfl
theorem r47_5 {x5 x8 : Int} {M : Mem} {call : CallM} {K : Array Value → Mem → R} :
    opsK Try.prog (fun _ => call) (O47 [1,0,1,0,1,1,1,0]) (O47 [1,0,1,0,1,1,1,0]).toList 0 #[g0,g1,g2,g3,g4,.int .i64 x5,g6,g7,.int .i64 x8,g9,gA,gB,gC,gD,gE,gF,gG,gH,gI,gJ,gK,gL,gM,gN,gO,gP,gQ,gR,gS,gT,gU,gV,gW,gX,gY,gZ,hA,hB,hC,hD,hE,hF,hG,hH,hI,hJ,hK,hL,hM,hN,hO,hP,hQ,hR,hS,hT,hU,hV,hW,hX,hY,hZ,h0,h1,h2,h3,h4,h5,h6,h7,h8,h9,jA,jB,jC,jD,jE,jF,jG,jH,jI,jJ,jK,jL,jM,jN,jO,jP,jQ] M K = K #[g0,g1,g2,g3,g4,.int .i64 x5,g6,g7,.int .i64 x8,.int .i64 ((IntKind.i64.wrap (x5 - x8)).fdiv (2 ^ 1)),gA,gB,gC,gD,gE,gF,gG,gH,gI,gJ,gK,gL,gM,gN,gO,gP,gQ,gR,gS,gT,gU,gV,gW,gX,gY,gZ,.int .i64 x5,.int .i64 x8,.int .i64 (IntKind.i64.wrap (x5 - x8)),.int .i64 ((IntKind.i64.wrap (x5 - x8)).fdiv (2 ^ 1)),hE,hF,hG,hH,hI,hJ,hK,hL,hM,hN,hO,hP,hQ,hR,hS,hT,hU,hV,hW,hX,hY,hZ,h0,h1,h2,h3,h4,h5,h6,h7,h8,h9,jA,jB,jC,jD,jE,jF,jG,jH,jI,jJ,jK,jL,jM,jN,jO,jP,jQ] M := by kernel_rfl
theorem k47_14 : P47 [1,0,1,0,1,1,1,1] = .seq (P47 [1,0,1,0,1,1,1,1,0]) (P47 [1,0,1,0,1,1,1,1,1]) := by kernel_rfl
theorem k47_15 : P47 [1,0,1,0,1,1,1,1,0] = .region 6 (O47 [1,0,1,0,1,1,1,1,0]) false := by kernel_rfl
theorem r47_6 {x6 x9 : Int} {M : Mem} {call : CallM} {K : Array Value → Mem → R} :
    opsK Try.prog (fun _ => call) (O47 [1,0,1,0,1,1,1,1,0]) (O47 [1,0,1,0,1,1,1,1,0]).toList 0 #[g0,g1,g2,g3,g4,g5,.int .i64 x6,g7,g8,.int .i64 x9,gA,gB,gC,gD,gE,gF,gG,gH,gI,gJ,gK,gL,gM,gN,gO,gP,gQ,gR,gS,gT,gU,gV,gW,gX,gY,gZ,hA,hB,hC,hD,hE,hF,hG,hH,hI,hJ,hK,hL,hM,hN,hO,hP,hQ,hR,hS,hT,hU,hV,hW,hX,hY,hZ,h0,h1,h2,h3,h4,h5,h6,h7,h8,h9,jA,jB,jC,jD,jE,jF,jG,jH,jI,jJ,jK,jL,jM,jN,jO,jP,jQ] M K = K #[g0,g1,g2,g3,g4,g5,.int .i64 (IntKind.i64.wrap (x9 - x6)),g7,g8,.int .i64 x9,gA,gB,gC,gD,gE,gF,gG,gH,gI,gJ,gK,gL,gM,gN,gO,gP,gQ,gR,gS,gT,gU,gV,gW,gX,gY,gZ,hA,hB,hC,hD,.int .i64 x9,.int .i64 x6,.int .i64 (IntKind.i64.wrap (x9 - x6)),hH,hI,hJ,hK,hL,hM,hN,hO,hP,hQ,hR,hS,hT,hU,hV,hW,hX,hY,hZ,h0,h1,h2,h3,h4,h5,h6,h7,h8,h9,jA,jB,jC,jD,jE,jF,jG,jH,jI,jJ,jK,jL,jM,jN,jO,jP,jQ] M := by kernel_rfl
theorem k47_16 : P47 [1,0,1,0,1,1,1,1,1] = .seq (P47 [1,0,1,0,1,1,1,1,1,0]) (P47 [1,0,1,0,1,1,1,1,1,1]) := by kernel_rfl
theorem k47_17 : P47 [1,0,1,0,1,1,1,1,1,0] = .region 7 (O47 [1,0,1,0,1,1,1,1,1,0]) false := by kernel_rfl
theorem r47_7 {x7 x9 : Int} {M : Mem} {call : CallM} {K : Array Value → Mem → R} :
    opsK Try.prog (fun _ => call) (O47 [1,0,1,0,1,1,1,1,1,0]) (O47 [1,0,1,0,1,1,1,1,1,0]).toList 0 #[g0,g1,g2,g3,g4,g5,g6,.int .i64 x7,g8,.int .i64 x9,gA,gB,gC,gD,gE,gF,gG,gH,gI,gJ,gK,gL,gM,gN,gO,gP,gQ,gR,gS,gT,gU,gV,gW,gX,gY,gZ,hA,hB,hC,hD,hE,hF,hG,hH,hI,hJ,hK,hL,hM,hN,hO,hP,hQ,hR,hS,hT,hU,hV,hW,hX,hY,hZ,h0,h1,h2,h3,h4,h5,h6,h7,h8,h9,jA,jB,jC,jD,jE,jF,jG,jH,jI,jJ,jK,jL,jM,jN,jO,jP,jQ] M K = K #[g0,g1,g2,g3,g4,g5,g6,.int .i64 (IntKind.i64.wrap (x9 - x7)),g8,.int .i64 x9,gA,gB,gC,gD,gE,gF,gG,gH,gI,gJ,gK,gL,gM,gN,gO,gP,gQ,gR,gS,gT,gU,gV,gW,gX,gY,gZ,hA,hB,hC,hD,hE,hF,hG,.int .i64 x9,.int .i64 x7,.int .i64 (IntKind.i64.wrap (x9 - x7)),hK,hL,hM,hN,hO,hP,hQ,hR,hS,hT,hU,hV,hW,hX,hY,hZ,h0,h1,h2,h3,h4,h5,h6,h7,h8,h9,jA,jB,jC,jD,jE,jF,jG,jH,jI,jJ,jK,jL,jM,jN,jO,jP,jQ] M := by kernel_rfl
theorem k47_18 : P47 [1,0,1,0,1,1,1,1,1,1] = .seq (P47 [1,0,1,0,1,1,1,1,1,1,0]) (P47 [1,0,1,0,1,1,1,1,1,1,1]) := by kernel_rfl
theorem k47_19 : P47 [1,0,1,0,1,1,1,1,1,1,0] = .region 8 (O47 [1,0,1,0,1,1,1,1,1,1,0]) false := by kernel_rfl
theorem r47_8 {x5 x6 x7 x8 : Int} {M : Mem} {call : CallM} {K : Array Value → Mem → R} :
    opsK Try.prog (fun _ => call) (O47 [1,0,1,0,1,1,1,1,1,1,0]) (O47 [1,0,1,0,1,1,1,1,1,1,0]).toList 0 #[g0,g1,g2,g3,g4,.int .i64 x5,.int .i64 x6,.int .i64 x7,.int .i64 x8,g9,gA,gB,gC,gD,gE,gF,gG,gH,gI,gJ,gK,gL,gM,gN,gO,gP,gQ,gR,gS,gT,gU,gV,gW,gX,gY,gZ,hA,hB,hC,hD,hE,hF,hG,hH,hI,hJ,hK,hL,hM,hN,hO,hP,hQ,hR,hS,hT,hU,hV,hW,hX,hY,hZ,h0,h1,h2,h3,h4,h5,h6,h7,h8,h9,jA,jB,jC,jD,jE,jF,jG,jH,jI,jJ,jK,jL,jM,jN,jO,jP,jQ] M K = K #[g0,g1,g2,g3,.slice (some ⟨2 * M.nb.size, 0, none⟩) 4 4,.int .i64 x5,.int .i64 x6,.int .i64 x7,.int .i64 x8,g9,gA,gB,gC,gD,gE,gF,gG,gH,gI,gJ,gK,gL,gM,gN,gO,gP,gQ,gR,gS,gT,gU,gV,gW,gX,gY,gZ,hA,hB,hC,hD,hE,hF,hG,hH,hI,hJ,.int .i64 x5,.int .i64 x7,.int .i64 (IntKind.i64.wrap (x5 - x7)),.int .i64 x7,.int .i64 x8,.int .i64 x6,.int .i64 (IntKind.i64.wrap (x8 + x6)),.int .i64 x6,.slice (some ⟨2 * M.nb.size, 0, none⟩) 4 4,hT,hU,hV,hW,hX,hY,hZ,h0,h1,h2,h3,h4,h5,h6,h7,h8,h9,jA,jB,jC,jD,jE,jF,jG,jH,jI,jJ,jK,jL,jM,jN,jO,jP,jQ] (M.new (.cells #[.int .i64 (IntKind.i64.wrap (x5 - x7)), .int .i64 x7, .int .i64 (IntKind.i64.wrap (x8 + x6)), .int .i64 x6] 3)) := by kernel_rfl
theorem k47_20 : P47 [1,0,1,0,1,1,1,1,1,1,1] = .ret := by kernel_rfl
theorem e47 {M : Mem} : finish Try.prog Try.f47 #[g0,g1,g2,g3,g4,g5,g6,g7,g8,g9,gA,gB,gC,gD,gE,gF,gG,gH,gI,gJ,gK,gL,gM,gN,gO,gP,gQ,gR,gS,gT,gU,gV,gW,gX,gY,gZ,hA,hB,hC,hD,hE,hF,hG,hH,hI,hJ,hK,hL,hM,hN,hO,hP,hQ,hR,hS,hT,hU,hV,hW,hX,hY,hZ,h0,h1,h2,h3,h4,h5,h6,h7,h8,h9,jA,jB,jC,jD,jE,jF,jG,jH,jI,jJ,jK,jL,jM,jN,jO,jP,jQ] M = some (g4, M) := by kernel_rfl
theorem k47_22 : P47 [1,0,1,1] = .skip := by kernel_rfl
theorem k47_23 : P47 [1,1] = .seq (P47 [1,1,0]) (P47 [1,1,1]) := by kernel_rfl
theorem k47_24 : P47 [1,1,0] = .region 9 (O47 [1,1,0]) false := by kernel_rfl
theorem r47_9 {Ax1 : Option Addr} {lx1 cx1 : Nat} {M : Mem} {call : CallM} {K : Array Value → Mem → R} :
    opsK Try.prog (fun _ => call) (O47 [1,1,0]) (O47 [1,1,0]).toList 0 #[g0,.slice Ax1 lx1 cx1,g2,g3,g4,g5,g6,g7,g8,g9,gA,gB,gC,gD,gE,gF,gG,gH,gI,gJ,gK,gL,gM,gN,gO,gP,gQ,gR,gS,gT,gU,gV,gW,gX,gY,gZ,hA,hB,hC,hD,hE,hF,hG,hH,hI,hJ,hK,hL,hM,hN,hO,hP,hQ,hR,hS,hT,hU,hV,hW,hX,hY,hZ,h0,h1,h2,h3,h4,h5,h6,h7,h8,h9,jA,jB,jC,jD,jE,jF,jG,jH,jI,jJ,jK,jL,jM,jN,jO,jP,jQ] M K = K #[g0,.slice Ax1 lx1 cx1,g2,g3,g4,g5,g6,g7,g8,g9,.int .i64 ((lx1 : Int)),gB,gC,gD,gE,gF,gG,gH,gI,gJ,gK,gL,gM,gN,gO,gP,gQ,gR,gS,gT,gU,gV,gW,gX,gY,gZ,hA,hB,hC,hD,hE,hF,hG,hH,hI,hJ,hK,hL,hM,hN,hO,hP,hQ,hR,hS,.slice Ax1 lx1 cx1,.int .i64 ((lx1 : Int)),hV,hW,hX,hY,hZ,h0,h1,h2,h3,h4,h5,h6,h7,h8,h9,jA,jB,jC,jD,jE,jF,jG,jH,jI,jJ,jK,jL,jM,jN,jO,jP,jQ] M := by kernel_rfl
theorem k47_25 : P47 [1,1,1] = .seq (P47 [1,1,1,0]) (P47 [1,1,1,1]) := by kernel_rfl
theorem k47_26 : P47 [1,1,1,0] = .region 10 (O47 [1,1,1,0]) false := by kernel_rfl
theorem r47_10 {x10 : Int} {M : Mem} {call : CallM} {K : Array Value → Mem → R} :
    opsK Try.prog (fun _ => call) (O47 [1,1,1,0]) (O47 [1,1,1,0]).toList 0 #[g0,g1,g2,g3,g4,g5,g6,g7,g8,g9,.int .i64 x10,gB,gC,gD,gE,gF,gG,gH,gI,gJ,gK,gL,gM,gN,gO,gP,gQ,gR,gS,gT,gU,gV,gW,gX,gY,gZ,hA,hB,hC,hD,hE,hF,hG,hH,hI,hJ,hK,hL,hM,hN,hO,hP,hQ,hR,hS,hT,hU,hV,hW,hX,hY,hZ,h0,h1,h2,h3,h4,h5,h6,h7,h8,h9,jA,jB,jC,jD,jE,jF,jG,jH,jI,jJ,jK,jL,jM,jN,jO,jP,jQ] M K = (makeP Try.prog 22 (.int .i64 x10) (.int .i64 x10) M).bind fun r_1 => (asS r_1.1).bind fun s_2 => K #[g0,g1,g2,g3,g4,g5,g6,g7,g8,g9,.int .i64 x10,.slice s_2.1 (s_2.2.1) (s_2.2.2),gC,gD,gE,gF,gG,gH,gI,gJ,gK,gL,gM,gN,gO,gP,gQ,gR,gS,gT,gU,gV,gW,gX,gY,gZ,hA,hB,hC,hD,hE,hF,hG,hH,hI,hJ,hK,hL,hM,hN,hO,hP,hQ,hR,hS,hT,hU,.int .i64 x10,.slice s_2.1 (s_2.2.1) (s_2.2.2),hX,hY,hZ,h0,h1,h2,h3,h4,h5,h6,h7,h8,h9,jA,jB,jC,jD,jE,jF,jG,jH,jI,jJ,jK,jL,jM,jN,jO,jP,jQ] r_1.2 := by kernel_rfl
theorem k47_27 : P47 [1,1,1,1] = .seq (P47 [1,1,1,1,0]) (P47 [1,1,1,1,1]) := by kernel_rfl
theorem k47_28 : P47 [1,1,1,1,0] = .seq (P47 [1,1,1,1,0,0]) (P47 [1,1,1,1,0,1]) := by kernel_rfl
theorem k47_29 : P47 [1,1,1,1,0,0] = .region 11 (O47 [1,1,1,1,0,0]) false := by kernel_rfl
theorem r47_11 {M : Mem} {call : CallM} {K : Array Value → Mem → R} :
    opsK Try.prog (fun _ => call) (O47 [1,1,1,1,0,0]) (O47 [1,1,1,1,0,0]).toList 0 #[g0,g1,g2,g3,g4,g5,g6,g7,g8,g9,gA,gB,gC,gD,gE,gF,gG,gH,gI,gJ,gK,gL,gM,gN,gO,gP,gQ,gR,gS,gT,gU,gV,gW,gX,gY,gZ,hA,hB,hC,hD,hE,hF,hG,hH,hI,hJ,hK,hL,hM,hN,hO,hP,hQ,hR,hS,hT,hU,hV,hW,hX,hY,hZ,h0,h1,h2,h3,h4,h5,h6,h7,h8,h9,jA,jB,jC,jD,jE,jF,jG,jH,jI,jJ,jK,jL,jM,jN,jO,jP,jQ] M K = K #[g0,g1,g2,g3,g4,g5,g6,g7,g8,g9,gA,gB,.int .i64 0,gD,gE,gF,gG,gH,gI,gJ,gK,gL,gM,gN,gO,gP,gQ,gR,gS,gT,gU,gV,gW,gX,gY,gZ,hA,hB,hC,hD,hE,hF,hG,hH,hI,hJ,hK,hL,hM,hN,hO,hP,hQ,hR,hS,hT,hU,hV,hW,hX,hY,hZ,h0,h1,h2,h3,h4,h5,h6,h7,h8,h9,jA,jB,jC,jD,jE,jF,jG,jH,jI,jJ,jK,jL,jM,jN,jO,jP,jQ] M := by kernel_rfl
theorem k47_30 : P47 [1,1,1,1,0,1] = .block 0 (P47 [1,1,1,1,0,1,0]) := by kernel_rfl
theorem k47_31 : P47 [1,1,1,1,0,1,0] = .loop (P47 [1,1,1,1,0,1,0,0]) := by kernel_rfl
theorem k47_32 : P47 [1,1,1,1,0,1,0,0] = .seq (P47 [1,1,1,1,0,1,0,0,0]) (P47 [1,1,1,1,0,1,0,0,1]) := by kernel_rfl
theorem k47_33 : P47 [1,1,1,1,0,1,0,0,0] = .seq (P47 [1,1,1,1,0,1,0,0,0,0]) (P47 [1,1,1,1,0,1,0,0,0,1]) := by kernel_rfl
theorem k47_34 : P47 [1,1,1,1,0,1,0,0,0,0] = .region 12 (O47 [1,1,1,1,0,1,0,0,0,0]) false := by kernel_rfl
theorem r47_12 {x10 x12 : Int} {M : Mem} {call : CallM} {K : Array Value → Mem → R} :
    opsK Try.prog (fun _ => call) (O47 [1,1,1,1,0,1,0,0,0,0]) (O47 [1,1,1,1,0,1,0,0,0,0]).toList 0 #[g0,g1,g2,g3,g4,g5,g6,g7,g8,g9,.int .i64 x10,gB,.int .i64 x12,gD,gE,gF,gG,gH,gI,gJ,gK,gL,gM,gN,gO,gP,gQ,gR,gS,gT,gU,gV,gW,gX,gY,gZ,hA,hB,hC,hD,hE,hF,hG,hH,hI,hJ,hK,hL,hM,hN,hO,hP,hQ,hR,hS,hT,hU,hV,hW,hX,hY,hZ,h0,h1,h2,h3,h4,h5,h6,h7,h8,h9,jA,jB,jC,jD,jE,jF,jG,jH,jI,jJ,jK,jL,jM,jN,jO,jP,jQ] M K = K #[g0,g1,g2,g3,g4,g5,g6,g7,g8,g9,.int .i64 x10,gB,.int .i64 x12,gD,gE,gF,gG,gH,gI,gJ,gK,gL,gM,gN,gO,gP,gQ,gR,gS,gT,gU,gV,gW,gX,gY,gZ,hA,hB,hC,hD,hE,hF,hG,hH,hI,hJ,hK,hL,hM,hN,hO,hP,hQ,hR,hS,hT,hU,hV,hW,.int .i64 x12,.int .i64 x10,.bool (decide (x12 < x10)),h0,h1,h2,h3,h4,h5,h6,h7,h8,h9,jA,jB,jC,jD,jE,jF,jG,jH,jI,jJ,jK,jL,jM,jN,jO,jP,jQ] M := by kernel_rfl
theorem c47_35 : P47 [1,1,1,1,0,1,0,0,0,1] = .cond (.tmp 61) (P47 [1,1,1,1,0,1,0,0,0,1,0]) (P47 [1,1,1,1,0,1,0,0,0,1,1]) := by kernel_rfl
theorem k47_36 : P47 [1,1,1,1,0,1,0,0,0,1,0] = .skip := by kernel_rfl
theorem k47_37 : P47 [1,1,1,1,0,1,0,0,1] = .seq (P47 [1,1,1,1,0,1,0,0,1,0]) (P47 [1,1,1,1,0,1,0,0,1,1]) := by kernel_rfl
theorem k47_38 : P47 [1,1,1,1,0,1,0,0,1,0] = .block 1 (P47 [1,1,1,1,0,1,0,0,1,0,0]) := by kernel_rfl
theorem k47_39 : P47 [1,1,1,1,0,1,0,0,1,0,0] = .seq (P47 [1,1,1,1,0,1,0,0,1,0,0,0]) (P47 [1,1,1,1,0,1,0,0,1,0,0,1]) := by kernel_rfl
theorem k47_40 : P47 [1,1,1,1,0,1,0,0,1,0,0,0] = .region 14 (O47 [1,1,1,1,0,1,0,0,1,0,0,0]) false := by kernel_rfl
theorem r47_14 {M : Mem} {call : CallM} {K : Array Value → Mem → R} :
    opsK Try.prog (fun _ => call) (O47 [1,1,1,1,0,1,0,0,1,0,0,0]) (O47 [1,1,1,1,0,1,0,0,1,0,0,0]).toList 0 #[g0,g1,g2,g3,g4,g5,g6,g7,g8,g9,gA,gB,gC,gD,gE,gF,gG,gH,gI,gJ,gK,gL,gM,gN,gO,gP,gQ,gR,gS,gT,gU,gV,gW,gX,gY,gZ,hA,hB,hC,hD,hE,hF,hG,hH,hI,hJ,hK,hL,hM,hN,hO,hP,hQ,hR,hS,hT,hU,hV,hW,hX,hY,hZ,h0,h1,h2,h3,h4,h5,h6,h7,h8,h9,jA,jB,jC,jD,jE,jF,jG,jH,jI,jJ,jK,jL,jM,jN,jO,jP,jQ] M K = K #[g0,g1,g2,g3,g4,g5,g6,g7,g8,g9,gA,gB,gC,.int .i64 2048,gE,gF,gG,gH,gI,gJ,gK,gL,gM,gN,gO,gP,gQ,gR,gS,gT,gU,gV,gW,gX,gY,gZ,hA,hB,hC,hD,hE,hF,hG,hH,hI,hJ,hK,hL,hM,hN,hO,hP,hQ,hR,hS,hT,hU,hV,hW,hX,hY,hZ,h0,h1,h2,h3,h4,h5,h6,h7,h8,h9,jA,jB,jC,jD,jE,jF,jG,jH,jI,jJ,jK,jL,jM,jN,jO,jP,jQ] M := by kernel_rfl
theorem k47_41 : P47 [1,1,1,1,0,1,0,0,1,0,0,1] = .seq (P47 [1,1,1,1,0,1,0,0,1,0,0,1,0]) (P47 [1,1,1,1,0,1,0,0,1,0,0,1,1]) := by kernel_rfl
theorem k47_42 : P47 [1,1,1,1,0,1,0,0,1,0,0,1,0] = .seq (P47 [1,1,1,1,0,1,0,0,1,0,0,1,0,0]) (P47 [1,1,1,1,0,1,0,0,1,0,0,1,0,1]) := by kernel_rfl
theorem k47_43 : P47 [1,1,1,1,0,1,0,0,1,0,0,1,0,0] = .region 15 (O47 [1,1,1,1,0,1,0,0,1,0,0,1,0,0]) false := by kernel_rfl
theorem r47_15 {M : Mem} {call : CallM} {K : Array Value → Mem → R} :
    opsK Try.prog (fun _ => call) (O47 [1,1,1,1,0,1,0,0,1,0,0,1,0,0]) (O47 [1,1,1,1,0,1,0,0,1,0,0,1,0,0]).toList 0 #[g0,g1,g2,g3,g4,g5,g6,g7,g8,g9,gA,gB,gC,gD,gE,gF,gG,gH,gI,gJ,gK,gL,gM,gN,gO,gP,gQ,gR,gS,gT,gU,gV,gW,gX,gY,gZ,hA,hB,hC,hD,hE,hF,hG,hH,hI,hJ,hK,hL,hM,hN,hO,hP,hQ,hR,hS,hT,hU,hV,hW,hX,hY,hZ,h0,h1,h2,h3,h4,h5,h6,h7,h8,h9,jA,jB,jC,jD,jE,jF,jG,jH,jI,jJ,jK,jL,jM,jN,jO,jP,jQ] M K = K #[g0,g1,g2,g3,g4,g5,g6,g7,g8,g9,gA,gB,gC,gD,.int .i64 0,gF,gG,gH,gI,gJ,gK,gL,gM,gN,gO,gP,gQ,gR,gS,gT,gU,gV,gW,gX,gY,gZ,hA,hB,hC,hD,hE,hF,hG,hH,hI,hJ,hK,hL,hM,hN,hO,hP,hQ,hR,hS,hT,hU,hV,hW,hX,hY,hZ,h0,h1,h2,h3,h4,h5,h6,h7,h8,h9,jA,jB,jC,jD,jE,jF,jG,jH,jI,jJ,jK,jL,jM,jN,jO,jP,jQ] M := by kernel_rfl
theorem k47_44 : P47 [1,1,1,1,0,1,0,0,1,0,0,1,0,1] = .block 2 (P47 [1,1,1,1,0,1,0,0,1,0,0,1,0,1,0]) := by kernel_rfl
theorem k47_45 : P47 [1,1,1,1,0,1,0,0,1,0,0,1,0,1,0] = .loop (P47 [1,1,1,1,0,1,0,0,1,0,0,1,0,1,0,0]) := by kernel_rfl
theorem k47_46 : P47 [1,1,1,1,0,1,0,0,0,1,1] = .exit 0 := by kernel_rfl
theorem k47_47 : P47 [1,1,1,1,1] = .seq (P47 [1,1,1,1,1,0]) (P47 [1,1,1,1,1,1]) := by kernel_rfl
theorem k47_48 : P47 [1,1,1,1,1,0] = .region 20 (O47 [1,1,1,1,1,0]) false := by kernel_rfl
theorem r47_20 {Ax11 : Option Addr} {lx11 cx11 : Nat} {M : Mem} {call : CallM} {K : Array Value → Mem → R} :
    opsK Try.prog (fun _ => call) (O47 [1,1,1,1,1,0]) (O47 [1,1,1,1,1,0]).toList 0 #[g0,g1,g2,g3,g4,g5,g6,g7,g8,g9,gA,.slice Ax11 lx11 cx11,gC,gD,gE,gF,gG,gH,gI,gJ,gK,gL,gM,gN,gO,gP,gQ,gR,gS,gT,gU,gV,gW,gX,gY,gZ,hA,hB,hC,hD,hE,hF,hG,hH,hI,hJ,hK,hL,hM,hN,hO,hP,hQ,hR,hS,hT,hU,hV,hW,hX,hY,hZ,h0,h1,h2,h3,h4,h5,h6,h7,h8,h9,jA,jB,jC,jD,jE,jF,jG,jH,jI,jJ,jK,jL,jM,jN,jO,jP,jQ] M K = K #[g0,g1,g2,g3,.slice Ax11 lx11 cx11,g5,g6,g7,g8,g9,gA,.slice Ax11 lx11 cx11,gC,gD,gE,gF,gG,gH,gI,gJ,gK,gL,gM,gN,gO,gP,gQ,gR,gS,gT,gU,gV,gW,gX,gY,gZ,hA,hB,hC,hD,hE,hF,hG,hH,hI,hJ,hK,hL,hM,hN,hO,hP,hQ,hR,hS,hT,hU,hV,hW,hX,hY,hZ,h0,h1,h2,h3,h4,h5,h6,h7,h8,h9,jA,jB,jC,jD,jE,jF,jG,jH,jI,jJ,jK,jL,jM,jN,jO,jP,.slice Ax11 lx11 cx11] M := by kernel_rfl
theorem k47_49 : P47 [1,1,1,1,1,1] = .ret := by kernel_rfl
theorem k47_50 : P47 [1,1,1,1,0,1,0,0,1,0,0,1,0,1,0,0] = .seq (P47 [1,1,1,1,0,1,0,0,1,0,0,1,0,1,0,0,0]) (P47 [1,1,1,1,0,1,0,0,1,0,0,1,0,1,0,0,1]) := by kernel_rfl
theorem k47_51 : P47 [1,1,1,1,0,1,0,0,1,0,0,1,0,1,0,0,0] = .seq (P47 [1,1,1,1,0,1,0,0,1,0,0,1,0,1,0,0,0,0]) (P47 [1,1,1,1,0,1,0,0,1,0,0,1,0,1,0,0,0,1]) := by kernel_rfl
theorem k47_52 : P47 [1,1,1,1,0,1,0,0,1,0,0,1,0,1,0,0,0,0] = .region 16 (O47 [1,1,1,1,0,1,0,0,1,0,0,1,0,1,0,0,0,0]) false := by kernel_rfl
theorem r47_16 {x10 x14 : Int} {M : Mem} {call : CallM} {K : Array Value → Mem → R} :
    opsK Try.prog (fun _ => call) (O47 [1,1,1,1,0,1,0,0,1,0,0,1,0,1,0,0,0,0]) (O47 [1,1,1,1,0,1,0,0,1,0,0,1,0,1,0,0,0,0]).toList 0 #[g0,g1,g2,g3,g4,g5,g6,g7,g8,g9,.int .i64 x10,gB,gC,gD,.int .i64 x14,gF,gG,gH,gI,gJ,gK,gL,gM,gN,gO,gP,gQ,gR,gS,gT,gU,gV,gW,gX,gY,gZ,hA,hB,hC,hD,hE,hF,hG,hH,hI,hJ,hK,hL,hM,hN,hO,hP,hQ,hR,hS,hT,hU,hV,hW,hX,hY,hZ,h0,h1,h2,h3,h4,h5,h6,h7,h8,h9,jA,jB,jC,jD,jE,jF,jG,jH,jI,jJ,jK,jL,jM,jN,jO,jP,jQ] M K = K #[g0,g1,g2,g3,g4,g5,g6,g7,g8,g9,.int .i64 x10,gB,gC,gD,.int .i64 x14,gF,gG,gH,gI,gJ,gK,gL,gM,gN,gO,gP,gQ,gR,gS,gT,gU,gV,gW,gX,gY,gZ,hA,hB,hC,hD,hE,hF,hG,hH,hI,hJ,hK,hL,hM,hN,hO,hP,hQ,hR,hS,hT,hU,hV,hW,hX,hY,hZ,h0,h1,.int .i64 x14,.int .i64 x10,.bool (decide (x14 < x10)),h5,h6,h7,h8,h9,jA,jB,jC,jD,jE,jF,jG,jH,jI,jJ,jK,jL,jM,jN,jO,jP,jQ] M := by kernel_rfl
theorem c47_53 : P47 [1,1,1,1,0,1,0,0,1,0,0,1,0,1,0,0,0,1] = .cond (.tmp 66) (P47 [1,1,1,1,0,1,0,0,1,0,0,1,0,1,0,0,0,1,0]) (P47 [1,1,1,1,0,1,0,0,1,0,0,1,0,1,0,0,0,1,1]) := by kernel_rfl
theorem k47_54 : P47 [1,1,1,1,0,1,0,0,1,0,0,1,0,1,0,0,0,1,0] = .skip := by kernel_rfl
theorem k47_55 : P47 [1,1,1,1,0,1,0,0,1,0,0,1,0,1,0,0,1] = .seq (P47 [1,1,1,1,0,1,0,0,1,0,0,1,0,1,0,0,1,0]) (P47 [1,1,1,1,0,1,0,0,1,0,0,1,0,1,0,0,1,1]) := by kernel_rfl
theorem k47_56 : P47 [1,1,1,1,0,1,0,0,1,0,0,1,0,1,0,0,1,0] = .block 3 (P47 [1,1,1,1,0,1,0,0,1,0,0,1,0,1,0,0,1,0,0]) := by kernel_rfl
theorem k47_57 : P47 [1,1,1,1,0,1,0,0,1,0,0,1,0,1,0,0,1,0,0] = .region 18 (O47 [1,1,1,1,0,1,0,0,1,0,0,1,0,1,0,0,1,0,0]) true ∧ drawOk (O47 [1,1,1,1,0,1,0,0,1,0,0,1,0,1,0,0,1,0,0]) = true := ⟨by kernel_rfl, by kernel_rfl⟩
theorem r47_18 {Ax0 : Option Addr} {lx0 cx0 : Nat} {Ax1 : Option Addr} {lx1 cx1 : Nat} {x12 x13 x14 : Int} {M : Mem} {call : CallM} {K : Array Value → Mem → R} :
    opsI Try.prog (callAt call (O47 [1,1,1,1,0,1,0,0,1,0,0,1,0,1,0,0,1,0,0])) (O47 [1,1,1,1,0,1,0,0,1,0,0,1,0,1,0,0,1,0,0]) (ordOf (O47 [1,1,1,1,0,1,0,0,1,0,0,1,0,1,0,0,1,0,0])) [] #[.slice Ax0 lx0 cx0,.slice Ax1 lx1 cx1,g2,g3,g4,g5,g6,g7,g8,g9,gA,gB,.int .i64 x12,.int .i64 x13,.int .i64 x14,gF,gG,gH,gI,gJ,gK,gL,gM,gN,gO,gP,gQ,gR,gS,gT,gU,gV,gW,gX,gY,gZ,hA,hB,hC,hD,hE,hF,hG,hH,hI,hJ,hK,hL,hM,hN,hO,hP,hQ,hR,hS,hT,hU,hV,hW,hX,hY,hZ,h0,h1,h2,h3,h4,h5,h6,h7,h8,h9,jA,jB,jC,jD,jE,jF,jG,jH,jI,jJ,jK,jL,jM,jN,jO,jP,jQ] M K = (idxA Ax1 lx1 1 x14).bind fun a_1 => (M.intAt .i64 a_1.block a_1.off).bind fun x_2 => (idxA Ax0 lx0 1 x12).bind fun a_3 => (M.slAt a_3.block a_3.off).bind fun s_4 => (idxA s_4.1 (s_4.2.1) 1 x14).bind fun a_5 => (M.intAt .i64 a_5.block a_5.off).bind fun x_6 => K #[.slice Ax0 lx0 cx0,.slice Ax1 lx1 cx1,g2,g3,g4,g5,g6,g7,g8,g9,gA,gB,.int .i64 x12,.int .i64 (IntKind.i64.wrap (x13 + (IntKind.i64.wrap (x_2 * x_6)))),.int .i64 x14,gF,gG,gH,gI,gJ,gK,gL,gM,gN,gO,gP,gQ,gR,gS,gT,gU,gV,gW,gX,gY,gZ,hA,hB,hC,hD,hE,hF,hG,hH,hI,hJ,hK,hL,hM,hN,hO,hP,hQ,hR,hS,hT,hU,hV,hW,hX,hY,hZ,h0,h1,h2,h3,h4,h5,h6,.int .i64 x13,.slice Ax1 lx1 cx1,.int .i64 x14,.pointer (some a_1),.int .i64 x_2,.slice Ax0 lx0 cx0,.int .i64 x12,.pointer (some a_3),.slice s_4.1 (s_4.2.1) (s_4.2.2),.int .i64 x14,.pointer (some a_5),.int .i64 x_6,.int .i64 (IntKind.i64.wrap (x_2 * x_6)),.int .i64 (IntKind.i64.wrap (x13 + (IntKind.i64.wrap (x_2 * x_6)))),jL,jM,jN,jO,jP,jQ] M := by kernel_rfl
theorem k47_58 : P47 [1,1,1,1,0,1,0,0,1,0,0,1,0,1,0,0,1,1] = .region 17 (O47 [1,1,1,1,0,1,0,0,1,0,0,1,0,1,0,0,1,1]) false := by kernel_rfl
theorem r47_17 {x14 : Int} {M : Mem} {call : CallM} {K : Array Value → Mem → R} :
    opsK Try.prog (fun _ => call) (O47 [1,1,1,1,0,1,0,0,1,0,0,1,0,1,0,0,1,1]) (O47 [1,1,1,1,0,1,0,0,1,0,0,1,0,1,0,0,1,1]).toList 0 #[g0,g1,g2,g3,g4,g5,g6,g7,g8,g9,gA,gB,gC,gD,.int .i64 x14,gF,gG,gH,gI,gJ,gK,gL,gM,gN,gO,gP,gQ,gR,gS,gT,gU,gV,gW,gX,gY,gZ,hA,hB,hC,hD,hE,hF,hG,hH,hI,hJ,hK,hL,hM,hN,hO,hP,hQ,hR,hS,hT,hU,hV,hW,hX,hY,hZ,h0,h1,h2,h3,h4,h5,h6,h7,h8,h9,jA,jB,jC,jD,jE,jF,jG,jH,jI,jJ,jK,jL,jM,jN,jO,jP,jQ] M K = K #[g0,g1,g2,g3,g4,g5,g6,g7,g8,g9,gA,gB,gC,gD,.int .i64 (IntKind.i64.wrap (x14 + 1)),gF,gG,gH,gI,gJ,gK,gL,gM,gN,gO,gP,gQ,gR,gS,gT,gU,gV,gW,gX,gY,gZ,hA,hB,hC,hD,hE,hF,hG,hH,hI,hJ,hK,hL,hM,hN,hO,hP,hQ,hR,hS,hT,hU,hV,hW,hX,hY,hZ,h0,h1,h2,h3,h4,.int .i64 x14,.int .i64 (IntKind.i64.wrap (x14 + 1)),h7,h8,h9,jA,jB,jC,jD,jE,jF,jG,jH,jI,jJ,jK,jL,jM,jN,jO,jP,jQ] M := by kernel_rfl
theorem k47_59 : P47 [1,1,1,1,0,1,0,0,1,0,0,1,0,1,0,0,0,1,1] = .exit 2 := by kernel_rfl
theorem k47_60 : P47 [1,1,1,1,0,1,0,0,1,0,0,1,1] = .region 19 (O47 [1,1,1,1,0,1,0,0,1,0,0,1,1]) false := by kernel_rfl
theorem r47_19 {Ax11 : Option Addr} {lx11 cx11 : Nat} {x12 x13 : Int} {M : Mem} {call : CallM} {K : Array Value → Mem → R} :
    opsK Try.prog (fun _ => call) (O47 [1,1,1,1,0,1,0,0,1,0,0,1,1]) (O47 [1,1,1,1,0,1,0,0,1,0,0,1,1]).toList 0 #[g0,g1,g2,g3,g4,g5,g6,g7,g8,g9,gA,.slice Ax11 lx11 cx11,.int .i64 x12,.int .i64 x13,gE,gF,gG,gH,gI,gJ,gK,gL,gM,gN,gO,gP,gQ,gR,gS,gT,gU,gV,gW,gX,gY,gZ,hA,hB,hC,hD,hE,hF,hG,hH,hI,hJ,hK,hL,hM,hN,hO,hP,hQ,hR,hS,hT,hU,hV,hW,hX,hY,hZ,h0,h1,h2,h3,h4,h5,h6,h7,h8,h9,jA,jB,jC,jD,jE,jF,jG,jH,jI,jJ,jK,jL,jM,jN,jO,jP,jQ] M K = (idxA Ax11 lx11 1 x12).bind fun a_1 => (M.put a_1.block a_1.off (.int .i64 (x13.fdiv (2 ^ 12)))).bind fun M_2 => K #[g0,g1,g2,g3,g4,g5,g6,g7,g8,g9,gA,.slice Ax11 lx11 cx11,.int .i64 x12,.int .i64 x13,gE,gF,gG,gH,gI,gJ,gK,gL,gM,gN,gO,gP,gQ,gR,gS,gT,gU,gV,gW,gX,gY,gZ,hA,hB,hC,hD,hE,hF,hG,hH,hI,hJ,hK,hL,hM,hN,hO,hP,hQ,hR,hS,hT,hU,hV,hW,hX,hY,hZ,h0,h1,h2,h3,h4,h5,h6,h7,h8,h9,jA,jB,jC,jD,jE,jF,jG,jH,jI,jJ,jK,.slice Ax11 lx11 cx11,.int .i64 x12,.int .i64 x13,.int .i64 (x13.fdiv (2 ^ 12)),.pointer (some a_1),jQ] M_2 := by kernel_rfl
theorem k47_61 : P47 [1,1,1,1,0,1,0,0,1,1] = .region 13 (O47 [1,1,1,1,0,1,0,0,1,1]) false := by kernel_rfl
theorem r47_13 {x12 : Int} {M : Mem} {call : CallM} {K : Array Value → Mem → R} :
    opsK Try.prog (fun _ => call) (O47 [1,1,1,1,0,1,0,0,1,1]) (O47 [1,1,1,1,0,1,0,0,1,1]).toList 0 #[g0,g1,g2,g3,g4,g5,g6,g7,g8,g9,gA,gB,.int .i64 x12,gD,gE,gF,gG,gH,gI,gJ,gK,gL,gM,gN,gO,gP,gQ,gR,gS,gT,gU,gV,gW,gX,gY,gZ,hA,hB,hC,hD,hE,hF,hG,hH,hI,hJ,hK,hL,hM,hN,hO,hP,hQ,hR,hS,hT,hU,hV,hW,hX,hY,hZ,h0,h1,h2,h3,h4,h5,h6,h7,h8,h9,jA,jB,jC,jD,jE,jF,jG,jH,jI,jJ,jK,jL,jM,jN,jO,jP,jQ] M K = K #[g0,g1,g2,g3,g4,g5,g6,g7,g8,g9,gA,gB,.int .i64 (IntKind.i64.wrap (x12 + 1)),gD,gE,gF,gG,gH,gI,gJ,gK,gL,gM,gN,gO,gP,gQ,gR,gS,gT,gU,gV,gW,gX,gY,gZ,hA,hB,hC,hD,hE,hF,hG,hH,hI,hJ,hK,hL,hM,hN,hO,hP,hQ,hR,hS,hT,hU,hV,hW,hX,hY,hZ,.int .i64 x12,.int .i64 (IntKind.i64.wrap (x12 + 1)),h2,h3,h4,h5,h6,h7,h8,h9,jA,jB,jC,jD,jE,jF,jG,jH,jI,jJ,jK,jL,jM,jN,jO,jP,jQ] M := by kernel_rfl
noncomputable def S47_1 : List Item := [.code (P47 [1,1,1,1,0,1,0,0]), .inLoop (P47 [1,1,1,1,0,1,0,0]), .inBlock 0, .code (P47 [1,1,1,1,1])]
def A47_1 (Ax0 : Option Addr) (lx0 cx0 : Nat) (Ax1 : Option Addr) (lx1 cx1 : Nat) (x10 : Int) (Ax11 : Option Addr) (lx11 cx11 : Nat) (x12 : Int) (M : Mem) (Q : Value → Mem → Prop) : Prop := ∀ (g2 g3 g4 g5 g6 g7 g8 g9 gD gE gF gG gH gI gJ gK gL gM gN gO gP gQ gR gS gT gU gV gW gX gY gZ hA hB hC hD hE hF hG hH hI hJ hK hL hM hN hO hP hQ hR hS hT hU hV hW hX hY hZ h0 h1 h2 h3 h4 h5 h6 h7 h8 h9 jA jB jC jD jE jF jG jH jI jJ jK jL jM jN jO jP jQ : Value), Rn Try.prog Try.f47 S47_1 #[.slice Ax0 lx0 cx0, .slice Ax1 lx1 cx1, g2, g3, g4, g5, g6, g7, g8, g9, .int .i64 x10, .slice Ax11 lx11 cx11, .int .i64 x12, gD, gE, gF, gG, gH, gI, gJ, gK, gL, gM, gN, gO, gP, gQ, gR, gS, gT, gU, gV, gW, gX, gY, gZ, hA, hB, hC, hD, hE, hF, hG, hH, hI, hJ, hK, hL, hM, hN, hO, hP, hQ, hR, hS, hT, hU, hV, hW, hX, hY, hZ, h0, h1, h2, h3, h4, h5, h6, h7, h8, h9, jA, jB, jC, jD, jE, jF, jG, jH, jI, jJ, jK, jL, jM, jN, jO, jP, jQ] M Q
noncomputable def S47_2 : List Item := [.code (P47 [1,1,1,1,0,1,0,0,1,0,0,1,0,1,0,0]), .inLoop (P47 [1,1,1,1,0,1,0,0,1,0,0,1,0,1,0,0]), .inBlock 2, .code (P47 [1,1,1,1,0,1,0,0,1,0,0,1,1]), .inBlock 1, .code (P47 [1,1,1,1,0,1,0,0,1,1]), .inLoop (P47 [1,1,1,1,0,1,0,0]), .inBlock 0, .code (P47 [1,1,1,1,1])]
def A47_2 (Ax0 : Option Addr) (lx0 cx0 : Nat) (Ax1 : Option Addr) (lx1 cx1 : Nat) (x10 : Int) (Ax11 : Option Addr) (lx11 cx11 : Nat) (x12 x13 x14 : Int) (M : Mem) (Q : Value → Mem → Prop) : Prop := ∀ (g2 g3 g4 g5 g6 g7 g8 g9 gF gG gH gI gJ gK gL gM gN gO gP gQ gR gS gT gU gV gW gX gY gZ hA hB hC hD hE hF hG hH hI hJ hK hL hM hN hO hP hQ hR hS hT hU hV hW hX hY hZ h0 h1 h2 h3 h4 h5 h6 h7 h8 h9 jA jB jC jD jE jF jG jH jI jJ jK jL jM jN jO jP jQ : Value), Rn Try.prog Try.f47 S47_2 #[.slice Ax0 lx0 cx0, .slice Ax1 lx1 cx1, g2, g3, g4, g5, g6, g7, g8, g9, .int .i64 x10, .slice Ax11 lx11 cx11, .int .i64 x12, .int .i64 x13, .int .i64 x14, gF, gG, gH, gI, gJ, gK, gL, gM, gN, gO, gP, gQ, gR, gS, gT, gU, gV, gW, gX, gY, gZ, hA, hB, hC, hD, hE, hF, hG, hH, hI, hJ, hK, hL, hM, hN, hO, hP, hQ, hR, hS, hT, hU, hV, hW, hX, hY, hZ, h0, h1, h2, h3, h4, h5, h6, h7, h8, h9, jA, jB, jC, jD, jE, jF, jG, jH, jI, jJ, jK, jL, jM, jN, jO, jP, jQ] M Q
theorem w47_0 {Ax0 : Option Addr} {lx0 cx0 : Nat} {Ax1 : Option Addr} {lx1 cx1 : Nat} {M : Mem} {Q : Value → Mem → Prop} (H :
    ((((lx0 : Int)) = 0 →
     ∃ a1', idxA Ax1 lx1 1 0 = some a1' ∧
     ∃ x2', M.intAt .i64 a1'.block a1'.off = some x2' ∧
     ∃ a3', idxA Ax1 lx1 1 1 = some a3' ∧
     ∃ x4', M.intAt .i64 a3'.block a3'.off = some x4' ∧
     ∃ a5', idxA Ax1 lx1 1 2 = some a5' ∧
     ∃ x6', M.intAt .i64 a5'.block a5'.off = some x6' ∧
     ∃ a7', idxA Ax1 lx1 1 3 = some a7' ∧
     ∃ x8', M.intAt .i64 a7'.block a7'.off = some x8' ∧
     Q (.slice (some ⟨2 * M.nb.size, 0, none⟩) 4 4) (M.new (.cells #[.int .i64 (IntKind.i64.wrap ((IntKind.i64.wrap (x2' + x4')) - (IntKind.i64.wrap (((IntKind.i64.wrap ((IntKind.i64.wrap (x2' + x4')) - (IntKind.i64.wrap (x8' - x6')))).fdiv (2 ^ 1)) - x6')))), .int .i64 (IntKind.i64.wrap (((IntKind.i64.wrap ((IntKind.i64.wrap (x2' + x4')) - (IntKind.i64.wrap (x8' - x6')))).fdiv (2 ^ 1)) - x6')), .int .i64 (IntKind.i64.wrap ((IntKind.i64.wrap (x8' - x6')) + (IntKind.i64.wrap (((IntKind.i64.wrap ((IntKind.i64.wrap (x2' + x4')) - (IntKind.i64.wrap (x8' - x6')))).fdiv (2 ^ 1)) - x4')))), .int .i64 (IntKind.i64.wrap (((IntKind.i64.wrap ((IntKind.i64.wrap (x2' + x4')) - (IntKind.i64.wrap (x8' - x6')))).fdiv (2 ^ 1)) - x4'))] 3))) ∧
     (((lx0 : Int)) ≠ 0 →
     ∃ r9', makeP Try.prog 22 (.int .i64 (lx1 : Int)) (.int .i64 (lx1 : Int)) M = some r9' ∧
     ∃ s10', asS r9'.1 = some s10' ∧
     A47_1 Ax0 lx0 cx0 Ax1 lx1 cx1 (lx1 : Int) s10'.1 s10'.2.1 s10'.2.2 0 r9'.2 Q))) :
    Cn Try.prog 47 #[.slice Ax0 lx0 cx0, .slice Ax1 lx1 cx1] M Q := by
  refine Cn.of b47 d47 t47 ?_
  refine Rn.seq k47_0 (Rn.region k47_1 (fun call K => r47_0) (Rch.leaf (Rn.seq k47_2 (Rn.seq k47_3 (Rn.region k47_4 (fun call K => r47_1) (Rch.leaf ?_))))))
  refine Rn.cnd (v := ((lx0 : Int)) == 0) ⟨c47_5, rfl, by kernel_rfl⟩ (fun h => ?_) (fun h => ?_)
  · replace H := H.1 (eq_of_beq h)
    refine Rn.seq k47_6 (Rn.regionD k47_7 (fun call K => r47_2) (Rch.ex H fun a1' H => Rch.ex H fun x2' H => Rch.ex H fun a3' H => Rch.ex H fun x4' H => Rch.ex H fun a5' H => Rch.ex H fun x6' H => Rch.ex H fun a7' H => Rch.ex H fun x8' H => Rch.leaf (Rn.seq k47_8 ?_)))
    refine Rn.region k47_9 (fun call K => r47_3) (Rch.leaf (Rn.seq k47_10 (Rn.region k47_11 (fun call K => r47_4) (Rch.leaf (Rn.seq k47_12 (Rn.region k47_13 (fun call K => r47_5) (Rch.leaf (Rn.seq k47_14 (Rn.region k47_15 (fun call K => r47_6) (Rch.leaf (Rn.seq k47_16 ?_)))))))))))
    refine Rn.region k47_17 (fun call K => r47_7) (Rch.leaf (Rn.seq k47_18 (Rn.region k47_19 (fun call K => r47_8) (Rch.leaf ?_))))
    exact Rn.ret k47_20 e47 H
  · replace H := H.2 (ne_of_beq_false h)
    refine Rn.skip k47_22 (Rn.seq k47_23 (Rn.region k47_24 (fun call K => r47_9) (Rch.leaf (Rn.seq k47_25 (Rn.region k47_26 (fun call K => r47_10) (Rch.ex H fun r9' H => Rch.ex H fun s10' H => Rch.leaf (Rn.seq k47_27 (Rn.seq k47_28 (Rn.region k47_29 (fun call K => r47_11) ?_)))))))))
    refine Rch.leaf (Rn.block k47_30 (Rn.loop k47_31 ?_))
    exact H _ _ _ _ _ _ _ _ _ _ _ _ _ _ _ _ _ _ _ _ _ _ _ _ _ _ _ _ _ _ _ _ _ _ _ _ _ _ _ _ _ _ _ _ _ _ _ _ _ _ _ _ _ _ _ _ _ _ _ _ _ _ _ _ _ _ _ _ _ _ _ _ _ _ _ _ _ _ _ _ _ _ _ _

theorem w47_1 {Ax0 : Option Addr} {lx0 cx0 : Nat} {Ax1 : Option Addr} {lx1 cx1 : Nat} {x10 : Int} {Ax11 : Option Addr} {lx11 cx11 : Nat} {x12 : Int} {M : Mem} {Q : Value → Mem → Prop} (H :
    ((x12 < x10 →
     A47_2 Ax0 lx0 cx0 Ax1 lx1 cx1 x10 Ax11 lx11 cx11 x12 2048 0 M Q) ∧
     (¬ (x12 < x10) →
     Q (.slice Ax11 lx11 cx11) M))) :
    A47_1 Ax0 lx0 cx0 Ax1 lx1 cx1 x10 Ax11 lx11 cx11 x12 M Q := by
  intro g2 g3 g4 g5 g6 g7 g8 g9 gD gE gF gG gH gI gJ gK gL gM gN gO gP gQ gR gS gT gU gV gW gX gY gZ hA hB hC hD hE hF hG hH hI hJ hK hL hM hN hO hP hQ hR hS hT hU hV hW hX hY hZ h0 h1 h2 h3 h4 h5 h6 h7 h8 h9 jA jB jC jD jE jF jG jH jI jJ jK jL jM jN jO jP jQ
  refine Rn.seq k47_32 (Rn.seq k47_33 (Rn.region k47_34 (fun call K => r47_12) (Rch.leaf ?_)))
  refine Rn.cnd (v := decide (x12 < x10)) ⟨c47_35, rfl, by kernel_rfl⟩ (fun h => ?_) (fun h => ?_)
  · replace H := H.1 (of_decide_eq_true h)
    refine Rn.skip k47_36 (Rn.seq k47_37 (Rn.block k47_38 (Rn.seq k47_39 (Rn.region k47_40 (fun call K => r47_14) (Rch.leaf (Rn.seq k47_41 (Rn.seq k47_42 (Rn.region k47_43 (fun call K => r47_15) (Rch.leaf (Rn.block k47_44 (Rn.loop k47_45 ?_)))))))))))
    exact H _ _ _ _ _ _ _ _ _ _ _ _ _ _ _ _ _ _ _ _ _ _ _ _ _ _ _ _ _ _ _ _ _ _ _ _ _ _ _ _ _ _ _ _ _ _ _ _ _ _ _ _ _ _ _ _ _ _ _ _ _ _ _ _ _ _ _ _ _ _ _ _ _ _ _ _ _ _ _ _ _ _
  · replace H := H.2 (of_decide_eq_false h)
    refine Rn.exit k47_46 rfl (Rn.seq k47_47 (Rn.region k47_48 (fun call K => r47_20) (Rch.leaf ?_)))
    exact Rn.ret k47_49 e47 H

theorem w47_2 {Ax0 : Option Addr} {lx0 cx0 : Nat} {Ax1 : Option Addr} {lx1 cx1 : Nat} {x10 : Int} {Ax11 : Option Addr} {lx11 cx11 : Nat} {x12 x13 x14 : Int} {M : Mem} {Q : Value → Mem → Prop} (H :
    ((x14 < x10 →
     ∃ a11', idxA Ax1 lx1 1 x14 = some a11' ∧
     ∃ x12', M.intAt .i64 a11'.block a11'.off = some x12' ∧
     ∃ a13', idxA Ax0 lx0 1 x12 = some a13' ∧
     ∃ s14', M.slAt a13'.block a13'.off = some s14' ∧
     ∃ a15', idxA s14'.1 (s14'.2.1) 1 x14 = some a15' ∧
     ∃ x16', M.intAt .i64 a15'.block a15'.off = some x16' ∧
     A47_2 Ax0 lx0 cx0 Ax1 lx1 cx1 x10 Ax11 lx11 cx11 x12 (IntKind.i64.wrap (x13 + (IntKind.i64.wrap (x12' * x16')))) (IntKind.i64.wrap (x14 + 1)) M Q) ∧
     (¬ (x14 < x10) →
     ∃ a17', idxA Ax11 lx11 1 x12 = some a17' ∧
     ∃ M18', M.put a17'.block a17'.off (.int .i64 (x13.fdiv (2 ^ 12))) = some M18' ∧
     A47_1 Ax0 lx0 cx0 Ax1 lx1 cx1 x10 Ax11 lx11 cx11 (IntKind.i64.wrap (x12 + 1)) M18' Q))) :
    A47_2 Ax0 lx0 cx0 Ax1 lx1 cx1 x10 Ax11 lx11 cx11 x12 x13 x14 M Q := by
  intro g2 g3 g4 g5 g6 g7 g8 g9 gF gG gH gI gJ gK gL gM gN gO gP gQ gR gS gT gU gV gW gX gY gZ hA hB hC hD hE hF hG hH hI hJ hK hL hM hN hO hP hQ hR hS hT hU hV hW hX hY hZ h0 h1 h2 h3 h4 h5 h6 h7 h8 h9 jA jB jC jD jE jF jG jH jI jJ jK jL jM jN jO jP jQ
  refine Rn.seq k47_50 (Rn.seq k47_51 (Rn.region k47_52 (fun call K => r47_16) (Rch.leaf ?_)))
  refine Rn.cnd (v := decide (x14 < x10)) ⟨c47_53, rfl, by kernel_rfl⟩ (fun h => ?_) (fun h => ?_)
  · replace H := H.1 (of_decide_eq_true h)
    refine Rn.skip k47_54 (Rn.seq k47_55 (Rn.block k47_56 (Rn.regionD k47_57 (fun call K => r47_18) (Rch.ex H fun a11' H => Rch.ex H fun x12' H => Rch.ex H fun a13' H => Rch.ex H fun s14' H => Rch.ex H fun a15' H => Rch.ex H fun x16' H => Rch.leaf (Rn.blk ?_)))))
    refine Rn.region k47_58 (fun call K => r47_17) (Rch.leaf (Rn.lp ?_))
    exact H _ _ _ _ _ _ _ _ _ _ _ _ _ _ _ _ _ _ _ _ _ _ _ _ _ _ _ _ _ _ _ _ _ _ _ _ _ _ _ _ _ _ _ _ _ _ _ _ _ _ _ _ _ _ _ _ _ _ _ _ _ _ _ _ _ _ _ _ _ _ _ _ _ _ _ _ _ _ _ _ _ _
  · replace H := H.2 (of_decide_eq_false h)
    refine Rn.exit k47_59 rfl (Rn.region k47_60 (fun call K => r47_19) (Rch.ex H fun a17' H => Rch.ex H fun M18' H => Rch.leaf (Rn.blk (Rn.region k47_61 (fun call K => r47_13) (Rch.leaf (Rn.lp ?_))))))
    exact H _ _ _ _ _ _ _ _ _ _ _ _ _ _ _ _ _ _ _ _ _ _ _ _ _ _ _ _ _ _ _ _ _ _ _ _ _ _ _ _ _ _ _ _ _ _ _ _ _ _ _ _ _ _ _ _ _ _ _ _ _ _ _ _ _ _ _ _ _ _ _ _ _ _ _ _ _ _ _ _ _ _ _ _


/-! ### zoetrope/zoetroperef07.Matrix: function 55 -/
noncomputable abbrev P55 (p : List Nat) : Code := subC (codeOf Try.f55) p
noncomputable abbrev O55 (p : List Nat) : Array Oper := opsOf (subC (codeOf Try.f55) p)
theorem b55 : Try.prog.funcs[55]? = some Try.f55 ∧ (Orc.tab Try.prog).lookup 55 = none := ⟨by kernel_rfl, by kernel_rfl⟩
theorem d55 : Try.f55.body = some (P55 []) := by kernel_rfl
theorem t55 {x0 x1 : Int} : #[.int .i64 x0,.int .i64 x1] ++ Array.replicate (Try.f55.ntmps - (#[.int .i64 x0,.int .i64 x1] : Array Value).size) undef = #[.int .i64 x0,.int .i64 x1,undef,undef,undef,undef,undef,undef,undef,undef,undef,undef,undef,undef,undef,undef,undef,undef,undef,undef,undef,undef,undef,undef,undef,undef,undef,undef,undef,undef,undef,undef,undef,undef] := by kernel_rfl
theorem k55_0 : P55 [] = .seq (P55 [0]) (P55 [1]) := by kernel_rfl
theorem k55_1 : P55 [0] = .region 0 (O55 [0]) false := by kernel_rfl
theorem r55_0 {M : Mem} {call : CallM} {K : Array Value → Mem → R} :
    opsK Try.prog (fun _ => call) (O55 [0]) (O55 [0]).toList 0 #[g0,g1,g2,g3,g4,g5,g6,g7,g8,g9,gA,gB,gC,gD,gE,gF,gG,gH,gI,gJ,gK,gL,gM,gN,gO,gP,gQ,gR,gS,gT,gU,gV,gW,gX] M K = K #[g0,g1,g2,g3,.slice none 0 0,g5,g6,g7,g8,g9,gA,gB,gC,gD,gE,gF,gG,gH,gI,gJ,gK,gL,gM,gN,gO,gP,gQ,gR,gS,gT,gU,gV,gW,gX] M := by kernel_rfl
theorem k55_2 : P55 [1] = .seq (P55 [1,0]) (P55 [1,1]) := by kernel_rfl
theorem k55_3 : P55 [1,0] = .region 1 (O55 [1,0]) false := by kernel_rfl
theorem r55_1 {M : Mem} {call : CallM} {K : Array Value → Mem → R} :
    opsK Try.prog (fun _ => call) (O55 [1,0]) (O55 [1,0]).toList 0 #[g0,g1,g2,g3,g4,g5,g6,g7,g8,g9,gA,gB,gC,gD,gE,gF,gG,gH,gI,gJ,gK,gL,gM,gN,gO,gP,gQ,gR,gS,gT,gU,gV,gW,gX] M K = K #[g0,g1,g2,g3,g4,.slice none 0 0,g6,g7,g8,g9,gA,gB,gC,gD,gE,gF,gG,gH,gI,gJ,gK,gL,gM,gN,gO,gP,gQ,gR,gS,gT,gU,gV,gW,gX] M := by kernel_rfl
theorem k55_4 : P55 [1,1] = .seq (P55 [1,1,0]) (P55 [1,1,1]) := by kernel_rfl
theorem k55_5 : P55 [1,1,0] = .seq (P55 [1,1,0,0]) (P55 [1,1,0,1]) := by kernel_rfl
theorem k55_6 : P55 [1,1,0,0] = .region 2 (O55 [1,1,0,0]) false := by kernel_rfl
theorem r55_2 {M : Mem} {call : CallM} {K : Array Value → Mem → R} :
    opsK Try.prog (fun _ => call) (O55 [1,1,0,0]) (O55 [1,1,0,0]).toList 0 #[g0,g1,g2,g3,g4,g5,g6,g7,g8,g9,gA,gB,gC,gD,gE,gF,gG,gH,gI,gJ,gK,gL,gM,gN,gO,gP,gQ,gR,gS,gT,gU,gV,gW,gX] M K = K #[g0,g1,g2,g3,g4,g5,.int .i64 0,g7,g8,g9,gA,gB,gC,gD,gE,gF,gG,gH,gI,gJ,gK,gL,gM,gN,gO,gP,gQ,gR,gS,gT,gU,gV,gW,gX] M := by kernel_rfl
theorem k55_7 : P55 [1,1,0,1] = .block 0 (P55 [1,1,0,1,0]) := by kernel_rfl
theorem k55_8 : P55 [1,1,0,1,0] = .loop (P55 [1,1,0,1,0,0]) := by kernel_rfl
theorem k55_9 : P55 [1,1,0,1,0,0] = .seq (P55 [1,1,0,1,0,0,0]) (P55 [1,1,0,1,0,0,1]) := by kernel_rfl
theorem k55_10 : P55 [1,1,0,1,0,0,0] = .seq (P55 [1,1,0,1,0,0,0,0]) (P55 [1,1,0,1,0,0,0,1]) := by kernel_rfl
theorem k55_11 : P55 [1,1,0,1,0,0,0,0] = .region 3 (O55 [1,1,0,1,0,0,0,0]) false := by kernel_rfl
theorem r55_3 {x1 x6 : Int} {M : Mem} {call : CallM} {K : Array Value → Mem → R} :
    opsK Try.prog (fun _ => call) (O55 [1,1,0,1,0,0,0,0]) (O55 [1,1,0,1,0,0,0,0]).toList 0 #[g0,.int .i64 x1,g2,g3,g4,g5,.int .i64 x6,g7,g8,g9,gA,gB,gC,gD,gE,gF,gG,gH,gI,gJ,gK,gL,gM,gN,gO,gP,gQ,gR,gS,gT,gU,gV,gW,gX] M K = K #[g0,.int .i64 x1,g2,g3,g4,g5,.int .i64 x6,g7,g8,.int .i64 x6,.int .i64 x1,.bool (decide (x6 < x1)),gC,gD,gE,gF,gG,gH,gI,gJ,gK,gL,gM,gN,gO,gP,gQ,gR,gS,gT,gU,gV,gW,gX] M := by kernel_rfl
theorem c55_12 : P55 [1,1,0,1,0,0,0,1] = .cond (.tmp 11) (P55 [1,1,0,1,0,0,0,1,0]) (P55 [1,1,0,1,0,0,0,1,1]) := by kernel_rfl
theorem k55_13 : P55 [1,1,0,1,0,0,0,1,0] = .skip := by kernel_rfl
theorem k55_14 : P55 [1,1,0,1,0,0,1] = .seq (P55 [1,1,0,1,0,0,1,0]) (P55 [1,1,0,1,0,0,1,1]) := by kernel_rfl
theorem k55_15 : P55 [1,1,0,1,0,0,1,0] = .block 1 (P55 [1,1,0,1,0,0,1,0,0]) := by kernel_rfl
theorem k55_16 : P55 [1,1,0,1,0,0,1,0,0] = .seq (P55 [1,1,0,1,0,0,1,0,0,0]) (P55 [1,1,0,1,0,0,1,0,0,1]) := by kernel_rfl
theorem k55_17 : P55 [1,1,0,1,0,0,1,0,0,0] = .region 5 (O55 [1,1,0,1,0,0,1,0,0,0]) false := by kernel_rfl
theorem r55_5 {x1 : Int} {M : Mem} {call : CallM} {K : Array Value → Mem → R} :
    opsK Try.prog (fun _ => call) (O55 [1,1,0,1,0,0,1,0,0,0]) (O55 [1,1,0,1,0,0,1,0,0,0]).toList 0 #[g0,.int .i64 x1,g2,g3,g4,g5,g6,g7,g8,g9,gA,gB,gC,gD,gE,gF,gG,gH,gI,gJ,gK,gL,gM,gN,gO,gP,gQ,gR,gS,gT,gU,gV,gW,gX] M K = (makeP Try.prog 22 (.int .i64 x1) (.int .i64 x1) M).bind fun r_1 => (asS r_1.1).bind fun s_2 => K #[g0,.int .i64 x1,g2,g3,g4,g5,g6,.slice s_2.1 (s_2.2.1) (s_2.2.2),g8,g9,gA,gB,gC,gD,.int .i64 x1,.slice s_2.1 (s_2.2.1) (s_2.2.2),gG,gH,gI,gJ,gK,gL,gM,gN,gO,gP,gQ,gR,gS,gT,gU,gV,gW,gX] r_1.2 := by kernel_rfl
theorem k55_18 : P55 [1,1,0,1,0,0,1,0,0,1] = .seq (P55 [1,1,0,1,0,0,1,0,0,1,0]) (P55 [1,1,0,1,0,0,1,0,0,1,1]) := by kernel_rfl
theorem k55_19 : P55 [1,1,0,1,0,0,1,0,0,1,0] = .seq (P55 [1,1,0,1,0,0,1,0,0,1,0,0]) (P55 [1,1,0,1,0,0,1,0,0,1,0,1]) := by kernel_rfl
theorem k55_20 : P55 [1,1,0,1,0,0,1,0,0,1,0,0] = .region 6 (O55 [1,1,0,1,0,0,1,0,0,1,0,0]) false := by kernel_rfl
theorem r55_6 {M : Mem} {call : CallM} {K : Array Value → Mem → R} :
    opsK Try.prog (fun _ => call) (O55 [1,1,0,1,0,0,1,0,0,1,0,0]) (O55 [1,1,0,1,0,0,1,0,0,1,0,0]).toList 0 #[g0,g1,g2,g3,g4,g5,g6,g7,g8,g9,gA,gB,gC,gD,gE,gF,gG,gH,gI,gJ,gK,gL,gM,gN,gO,gP,gQ,gR,gS,gT,gU,gV,gW,gX] M K = K #[g0,g1,g2,g3,g4,g5,g6,g7,.int .i64 0,g9,gA,gB,gC,gD,gE,gF,gG,gH,gI,gJ,gK,gL,gM,gN,gO,gP,gQ,gR,gS,gT,gU,gV,gW,gX] M := by kernel_rfl
theorem k55_21 : P55 [1,1,0,1,0,0,1,0,0,1,0,1] = .block 2 (P55 [1,1,0,1,0,0,1,0,0,1,0,1,0]) := by kernel_rfl
theorem k55_22 : P55 [1,1,0,1,0,0,1,0,0,1,0,1,0] = .loop (P55 [1,1,0,1,0,0,1,0,0,1,0,1,0,0]) := by kernel_rfl
theorem k55_23 : P55 [1,1,0,1,0,0,0,1,1] = .exit 0 := by kernel_rfl
theorem k55_24 : P55 [1,1,1] = .seq (P55 [1,1,1,0]) (P55 [1,1,1,1]) := by kernel_rfl
theorem k55_25 : P55 [1,1,1,0] = .region 11 (O55 [1,1,1,0]) false := by kernel_rfl
theorem r55_11 {Ax5 : Option Addr} {lx5 cx5 : Nat} {M : Mem} {call : CallM} {K : Array Value → Mem → R} :
    opsK Try.prog (fun _ => call) (O55 [1,1,1,0]) (O55 [1,1,1,0]).toList 0 #[g0,g1,g2,g3,g4,.slice Ax5 lx5 cx5,g6,g7,g8,g9,gA,gB,gC,gD,gE,gF,gG,gH,gI,gJ,gK,gL,gM,gN,gO,gP,gQ,gR,gS,gT,gU,gV,gW,gX] M K = K #[g0,g1,g2,g3,.slice Ax5 lx5 cx5,.slice Ax5 lx5 cx5,g6,g7,g8,g9,gA,gB,gC,gD,gE,gF,gG,gH,gI,gJ,gK,gL,gM,gN,gO,gP,gQ,gR,gS,gT,gU,gV,gW,.slice Ax5 lx5 cx5] M := by kernel_rfl
theorem k55_26 : P55 [1,1,1,1] = .ret := by kernel_rfl
theorem e55 {M : Mem} : finish Try.prog Try.f55 #[g0,g1,g2,g3,g4,g5,g6,g7,g8,g9,gA,gB,gC,gD,gE,gF,gG,gH,gI,gJ,gK,gL,gM,gN,gO,gP,gQ,gR,gS,gT,gU,gV,gW,gX] M = some (g4, M) := by kernel_rfl
theorem k55_28 : P55 [1,1,0,1,0,0,1,0,0,1,0,1,0,0] = .seq (P55 [1,1,0,1,0,0,1,0,0,1,0,1,0,0,0]) (P55 [1,1,0,1,0,0,1,0,0,1,0,1,0,0,1]) := by kernel_rfl
theorem k55_29 : P55 [1,1,0,1,0,0,1,0,0,1,0,1,0,0,0] = .seq (P55 [1,1,0,1,0,0,1,0,0,1,0,1,0,0,0,0]) (P55 [1,1,0,1,0,0,1,0,0,1,0,1,0,0,0,1]) := by kernel_rfl
theorem k55_30 : P55 [1,1,0,1,0,0,1,0,0,1,0,1,0,0,0,0] = .region 7 (O55 [1,1,0,1,0,0,1,0,0,1,0,1,0,0,0,0]) false := by kernel_rfl
theorem r55_7 {x1 x8 : Int} {M : Mem} {call : CallM} {K : Array Value → Mem → R} :
    opsK Try.prog (fun _ => call) (O55 [1,1,0,1,0,0,1,0,0,1,0,1,0,0,0,0]) (O55 [1,1,0,1,0,0,1,0,0,1,0,1,0,0,0,0]).toList 0 #[g0,.int .i64 x1,g2,g3,g4,g5,g6,g7,.int .i64 x8,g9,gA,gB,gC,gD,gE,gF,gG,gH,gI,gJ,gK,gL,gM,gN,gO,gP,gQ,gR,gS,gT,gU,gV,gW,gX] M K = K #[g0,.int .i64 x1,g2,g3,g4,g5,g6,g7,.int .i64 x8,g9,gA,gB,gC,gD,gE,gF,.int .i64 x8,.int .i64 x1,.bool (decide (x8 < x1)),gJ,gK,gL,gM,gN,gO,gP,gQ,gR,gS,gT,gU,gV,gW,gX] M := by kernel_rfl
theorem c55_31 : P55 [1,1,0,1,0,0,1,0,0,1,0,1,0,0,0,1] = .cond (.tmp 18) (P55 [1,1,0,1,0,0,1,0,0,1,0,1,0,0,0,1,0]) (P55 [1,1,0,1,0,0,1,0,0,1,0,1,0,0,0,1,1]) := by kernel_rfl
theorem k55_32 : P55 [1,1,0,1,0,0,1,0,0,1,0,1,0,0,0,1,0] = .skip := by kernel_rfl
theorem k55_33 : P55 [1,1,0,1,0,0,1,0,0,1,0,1,0,0,1] = .seq (P55 [1,1,0,1,0,0,1,0,0,1,0,1,0,0,1,0]) (P55 [1,1,0,1,0,0,1,0,0,1,0,1,0,0,1,1]) := by kernel_rfl
theorem k55_34 : P55 [1,1,0,1,0,0,1,0,0,1,0,1,0,0,1,0] = .block 3 (P55 [1,1,0,1,0,0,1,0,0,1,0,1,0,0,1,0,0]) := by kernel_rfl
theorem k55_35 : P55 [1,1,0,1,0,0,1,0,0,1,0,1,0,0,1,0,0] = .region 9 (O55 [1,1,0,1,0,0,1,0,0,1,0,1,0,0,1,0,0]) false := by kernel_rfl
theorem r55_9 {x0 x1 x6 : Int} {Ax7 : Option Addr} {lx7 cx7 : Nat} {x8 : Int} {M : Mem} {call : CallM} {K : Array Value → Mem → R} :
    opsK Try.prog (fun _ => call) (O55 [1,1,0,1,0,0,1,0,0,1,0,1,0,0,1,0,0]) (O55 [1,1,0,1,0,0,1,0,0,1,0,1,0,0,1,0,0]).toList 0 #[.int .i64 x0,.int .i64 x1,g2,g3,g4,g5,.int .i64 x6,.slice Ax7 lx7 cx7,.int .i64 x8,g9,gA,gB,gC,gD,gE,gF,gG,gH,gI,gJ,gK,gL,gM,gN,gO,gP,gQ,gR,gS,gT,gU,gV,gW,gX] M K = (call 67 #[.int .i64 x0, .int .i64 x1, .int .i64 x6, .int .i64 x8] M).bind fun r_1 => (asI .i64 r_1.1).bind fun x_2 => (idxA Ax7 lx7 1 x8).bind fun a_3 => (r_1.2.put a_3.block a_3.off (.int .i64 x_2)).bind fun M_4 => K #[.int .i64 x0,.int .i64 x1,g2,g3,g4,g5,.int .i64 x6,.slice Ax7 lx7 cx7,.int .i64 x8,g9,gA,gB,gC,gD,gE,gF,gG,gH,gI,gJ,gK,.slice Ax7 lx7 cx7,.int .i64 x8,.int .i64 x0,.int .i64 x1,.int .i64 x6,.int .i64 x8,.int .i64 x_2,.pointer (some a_3),gT,gU,gV,gW,gX] M_4 := by kernel_rfl
theorem k55_36 : P55 [1,1,0,1,0,0,1,0,0,1,0,1,0,0,1,1] = .region 8 (O55 [1,1,0,1,0,0,1,0,0,1,0,1,0,0,1,1]) false := by kernel_rfl
theorem r55_8 {x8 : Int} {M : Mem} {call : CallM} {K : Array Value → Mem → R} :
    opsK Try.prog (fun _ => call) (O55 [1,1,0,1,0,0,1,0,0,1,0,1,0,0,1,1]) (O55 [1,1,0,1,0,0,1,0,0,1,0,1,0,0,1,1]).toList 0 #[g0,g1,g2,g3,g4,g5,g6,g7,.int .i64 x8,g9,gA,gB,gC,gD,gE,gF,gG,gH,gI,gJ,gK,gL,gM,gN,gO,gP,gQ,gR,gS,gT,gU,gV,gW,gX] M K = K #[g0,g1,g2,g3,g4,g5,g6,g7,.int .i64 (IntKind.i64.wrap (x8 + 1)),g9,gA,gB,gC,gD,gE,gF,gG,gH,gI,.int .i64 x8,.int .i64 (IntKind.i64.wrap (x8 + 1)),gL,gM,gN,gO,gP,gQ,gR,gS,gT,gU,gV,gW,gX] M := by kernel_rfl
theorem k55_37 : P55 [1,1,0,1,0,0,1,0,0,1,0,1,0,0,0,1,1] = .exit 2 := by kernel_rfl
theorem k55_38 : P55 [1,1,0,1,0,0,1,0,0,1,1] = .region 10 (O55 [1,1,0,1,0,0,1,0,0,1,1]) false := by kernel_rfl
theorem r55_10 {Ax5 : Option Addr} {lx5 cx5 : Nat} {Ax7 : Option Addr} {lx7 cx7 : Nat} {M : Mem} {call : CallM} {K : Array Value → Mem → R} :
    opsK Try.prog (fun _ => call) (O55 [1,1,0,1,0,0,1,0,0,1,1]) (O55 [1,1,0,1,0,0,1,0,0,1,1]).toList 0 #[g0,g1,g2,g3,g4,.slice Ax5 lx5 cx5,g6,.slice Ax7 lx7 cx7,g8,g9,gA,gB,gC,gD,gE,gF,gG,gH,gI,gJ,gK,gL,gM,gN,gO,gP,gQ,gR,gS,gT,gU,gV,gW,gX] M K = (appendP Try.prog #[50, 50] (.slice Ax5 lx5 cx5) (.slice (some ⟨2 * M.nb.size, 0, none⟩) 1 1) (M.new (.cells #[.slice Ax7 lx7 cx7] 22))).bind fun r_1 => (asS r_1.1).bind fun s_2 => K #[g0,g1,g2,g3,g4,.slice s_2.1 (s_2.2.1) (s_2.2.2),g6,.slice Ax7 lx7 cx7,g8,g9,gA,gB,gC,gD,gE,gF,gG,gH,gI,gJ,gK,gL,gM,gN,gO,gP,gQ,gR,gS,.slice Ax5 lx5 cx5,.slice Ax7 lx7 cx7,.slice (some ⟨2 * M.nb.size, 0, none⟩) 1 1,.slice s_2.1 (s_2.2.1) (s_2.2.2),gX] r_1.2 := by kernel_rfl
theorem k55_39 : P55 [1,1,0,1,0,0,1,1] = .region 4 (O55 [1,1,0,1,0,0,1,1]) false := by kernel_rfl
theorem r55_4 {x6 : Int} {M : Mem} {call : CallM} {K : Array Value → Mem → R} :
    opsK Try.prog (fun _ => call) (O55 [1,1,0,1,0,0,1,1]) (O55 [1,1,0,1,0,0,1,1]).toList 0 #[g0,g1,g2,g3,g4,g5,.int .i64 x6,g7,g8,g9,gA,gB,gC,gD,gE,gF,gG,gH,gI,gJ,gK,gL,gM,gN,gO,gP,gQ,gR,gS,gT,gU,gV,gW,gX] M K = K #[g0,g1,g2,g3,g4,g5,.int .i64 (IntKind.i64.wrap (x6 + 1)),g7,g8,g9,gA,gB,.int .i64 x6,.int .i64 (IntKind.i64.wrap (x6 + 1)),gE,gF,gG,gH,gI,gJ,gK,gL,gM,gN,gO,gP,gQ,gR,gS,gT,gU,gV,gW,gX] M := by kernel_rfl
noncomputable def S55_1 : List Item := [.code (P55 [1,1,0,1,0,0]), .inLoop (P55 [1,1,0,1,0,0]), .inBlock 0, .code (P55 [1,1,1])]
def A55_1 (x0 x1 : Int) (Ax5 : Option Addr) (lx5 cx5 : Nat) (x6 : Int) (M : Mem) (Q : Value → Mem → Prop) : Prop := ∀ (g2 g3 g4 g7 g8 g9 gA gB gC gD gE gF gG gH gI gJ gK gL gM gN gO gP gQ gR gS gT gU gV gW gX : Value), Rn Try.prog Try.f55 S55_1 #[.int .i64 x0, .int .i64 x1, g2, g3, g4, .slice Ax5 lx5 cx5, .int .i64 x6, g7, g8, g9, gA, gB, gC, gD, gE, gF, gG, gH, gI, gJ, gK, gL, gM, gN, gO, gP, gQ, gR, gS, gT, gU, gV, gW, gX] M Q
noncomputable def S55_2 : List Item := [.code (P55 [1,1,0,1,0,0,1,0,0,1,0,1,0,0]), .inLoop (P55 [1,1,0,1,0,0,1,0,0,1,0,1,0,0]), .inBlock 2, .code (P55 [1,1,0,1,0,0,1,0,0,1,1]), .inBlock 1, .code (P55 [1,1,0,1,0,0,1,1]), .inLoop (P55 [1,1,0,1,0,0]), .inBlock 0, .code (P55 [1,1,1])]
def A55_2 (x0 x1 : Int) (Ax5 : Option Addr) (lx5 cx5 : Nat) (x6 : Int) (Ax7 : Option Addr) (lx7 cx7 : Nat) (x8 : Int) (M : Mem) (Q : Value → Mem → Prop) : Prop := ∀ (g2 g3 g4 g9 gA gB gC gD gE gF gG gH gI gJ gK gL gM gN gO gP gQ gR gS gT gU gV gW gX : Value), Rn Try.prog Try.f55 S55_2 #[.int .i64 x0, .int .i64 x1, g2, g3, g4, .slice Ax5 lx5 cx5, .int .i64 x6, .slice Ax7 lx7 cx7, .int .i64 x8, g9, gA, gB, gC, gD, gE, gF, gG, gH, gI, gJ, gK, gL, gM, gN, gO, gP, gQ, gR, gS, gT, gU, gV, gW, gX] M Q
theorem w55_0 {x0 x1 : Int} {M : Mem} {Q : Value → Mem → Prop} (H :
    A55_1 x0 x1 none 0 0 0 M Q) :
    Cn Try.prog 55 #[.int .i64 x0, .int .i64 x1] M Q := by
  refine Cn.of b55 d55 t55 ?_
  refine Rn.seq k55_0 (Rn.region k55_1 (fun call K => r55_0) (Rch.leaf (Rn.seq k55_2 (Rn.region k55_3 (fun call K => r55_1) (Rch.leaf (Rn.seq k55_4 (Rn.seq k55_5 (Rn.region k55_6 (fun call K => r55_2) (Rch.leaf (Rn.block k55_7 (Rn.loop k55_8 ?_)))))))))))
  exact H _ _ _ _ _ _ _ _ _ _ _ _ _ _ _ _ _ _ _ _ _ _ _ _ _ _ _ _ _ _

theorem w55_1 {x0 x1 : Int} {Ax5 : Option Addr} {lx5 cx5 : Nat} {x6 : Int} {M : Mem} {Q : Value → Mem → Prop} (H :
    ((x6 < x1 →
     ∃ r1', makeP Try.prog 22 (.int .i64 x1) (.int .i64 x1) M = some r1' ∧
     ∃ s2', asS r1'.1 = some s2' ∧
     A55_2 x0 x1 Ax5 lx5 cx5 x6 s2'.1 s2'.2.1 s2'.2.2 0 r1'.2 Q) ∧
     (¬ (x6 < x1) →
     Q (.slice Ax5 lx5 cx5) M))) :
    A55_1 x0 x1 Ax5 lx5 cx5 x6 M Q := by
  intro g2 g3 g4 g7 g8 g9 gA gB gC gD gE gF gG gH gI gJ gK gL gM gN gO gP gQ gR gS gT gU gV gW gX
  refine Rn.seq k55_9 (Rn.seq k55_10 (Rn.region k55_11 (fun call K => r55_3) (Rch.leaf ?_)))
  refine Rn.cnd (v := decide (x6 < x1)) ⟨c55_12, rfl, by kernel_rfl⟩ (fun h => ?_) (fun h => ?_)
  · replace H := H.1 (of_decide_eq_true h)
    refine Rn.skip k55_13 (Rn.seq k55_14 (Rn.block k55_15 (Rn.seq k55_16 (Rn.region k55_17 (fun call K => r55_5) (Rch.ex H fun r1' H => Rch.ex H fun s2' H => Rch.leaf (Rn.seq k55_18 (Rn.seq k55_19 (Rn.region k55_20 (fun call K => r55_6) (Rch.leaf ?_)))))))))
    refine Rn.block k55_21 (Rn.loop k55_22 ?_)
    exact H _ _ _ _ _ _ _ _ _ _ _ _ _ _ _ _ _ _ _ _ _ _ _ _ _ _ _ _
  · replace H := H.2 (of_decide_eq_false h)
    refine Rn.exit k55_23 rfl (Rn.seq k55_24 (Rn.region k55_25 (fun call K => r55_11) (Rch.leaf ?_)))
    exact Rn.ret k55_26 e55 H

theorem w55_2 {x0 x1 : Int} {Ax5 : Option Addr} {lx5 cx5 : Nat} {x6 : Int} {Ax7 : Option Addr} {lx7 cx7 : Nat} {x8 : Int} {M : Mem} {Q : Value → Mem → Prop} (H :
    ((x8 < x1 →
     Cn Try.prog 67 #[.int .i64 x0, .int .i64 x1, .int .i64 x6, .int .i64 x8] M fun v3' N3' =>
      ∃ x4', asI .i64 v3' = some x4' ∧
      ∃ a5', idxA Ax7 lx7 1 x8 = some a5' ∧
      ∃ M6', N3'.put a5'.block a5'.off (.int .i64 x4') = some M6' ∧
      A55_2 x0 x1 Ax5 lx5 cx5 x6 Ax7 lx7 cx7 (IntKind.i64.wrap (x8 + 1)) M6' Q) ∧
     (¬ (x8 < x1) →
     ∃ r7', appendP Try.prog #[50, 50] (.slice Ax5 lx5 cx5) (.slice (some ⟨2 * M.nb.size, 0, none⟩) 1 1) (M.new (.cells #[.slice Ax7 lx7 cx7] 22)) = some r7' ∧
     ∃ s8', asS r7'.1 = some s8' ∧
     A55_1 x0 x1 s8'.1 s8'.2.1 s8'.2.2 (IntKind.i64.wrap (x6 + 1)) r7'.2 Q))) :
    A55_2 x0 x1 Ax5 lx5 cx5 x6 Ax7 lx7 cx7 x8 M Q := by
  intro g2 g3 g4 g9 gA gB gC gD gE gF gG gH gI gJ gK gL gM gN gO gP gQ gR gS gT gU gV gW gX
  refine Rn.seq k55_28 (Rn.seq k55_29 (Rn.region k55_30 (fun call K => r55_7) (Rch.leaf ?_)))
  refine Rn.cnd (v := decide (x8 < x1)) ⟨c55_31, rfl, by kernel_rfl⟩ (fun h => ?_) (fun h => ?_)
  · replace H := H.1 (of_decide_eq_true h)
    refine Rn.skip k55_32 (Rn.seq k55_33 (Rn.block k55_34 (Rn.region k55_35 (fun call K => r55_9) (Rch.call H fun v3' N3' H => Rch.ex H fun x4' H => Rch.ex H fun a5' H => Rch.ex H fun M6' H => Rch.leaf (Rn.blk (Rn.region k55_36 (fun call K => r55_8) (Rch.leaf ?_)))))))
    refine Rn.lp ?_
    exact H _ _ _ _ _ _ _ _ _ _ _ _ _ _ _ _ _ _ _ _ _ _ _ _ _ _ _ _
  · replace H := H.2 (of_decide_eq_false h)
    refine Rn.exit k55_37 rfl (Rn.region k55_38 (fun call K => r55_10) (Rch.ex H fun r7' H => Rch.ex H fun s8' H => Rch.leaf (Rn.blk (Rn.region k55_39 (fun call K => r55_4) (Rch.leaf (Rn.lp ?_))))))
    exact H _ _ _ _ _ _ _ _ _ _ _ _ _ _ _ _ _ _ _ _ _ _ _ _ _ _ _ _ _ _


/-! ### zoetrope/zoetroperef07.weight: function 67 -/
noncomputable abbrev P67 (p : List Nat) : Code := subC (codeOf Try.f67) p
noncomputable abbrev O67 (p : List Nat) : Array Oper := opsOf (subC (codeOf Try.f67) p)
theorem b67 : Try.prog.funcs[67]? = some Try.f67 ∧ (Orc.tab Try.prog).lookup 67 = none := ⟨by kernel_rfl, by kernel_rfl⟩
theorem d67 : Try.f67.body = some (P67 []) := by kernel_rfl
theorem t67 {x0 x1 x2 x3 : Int} : #[.int .i64 x0,.int .i64 x1,.int .i64 x2,.int .i64 x3] ++ Array.replicate (Try.f67.ntmps - (#[.int .i64 x0,.int .i64 x1,.int .i64 x2,.int .i64 x3] : Array Value).size) undef = #[.int .i64 x0,.int .i64 x1,.int .i64 x2,.int .i64 x3,undef,undef,undef,undef,undef,undef,undef,undef,undef,undef,undef,undef,undef,undef,undef,undef,undef,undef,undef,undef,undef,undef,undef,undef,undef,undef,undef,undef,undef,undef,undef,undef,undef,undef,undef,undef,undef,undef,undef,undef,undef,undef,undef,undef,undef,undef,undef,undef,undef,undef,undef,undef,undef] := by kernel_rfl
theorem k67_0 : P67 [] = .seq (P67 [0]) (P67 [1]) := by kernel_rfl
theorem k67_1 : P67 [0] = .region 0 (O67 [0]) false := by kernel_rfl
theorem r67_0 {M : Mem} {call : CallM} {K : Array Value → Mem → R} :
    opsK Try.prog (fun _ => call) (O67 [0]) (O67 [0]).toList 0 #[g0,g1,g2,g3,g4,g5,g6,g7,g8,g9,gA,gB,gC,gD,gE,gF,gG,gH,gI,gJ,gK,gL,gM,gN,gO,gP,gQ,gR,gS,gT,gU,gV,gW,gX,gY,gZ,hA,hB,hC,hD,hE,hF,hG,hH,hI,hJ,hK,hL,hM,hN,hO,hP,hQ,hR,hS,hT,hU] M K = K #[g0,g1,g2,g3,g4,g5,g6,g7,.int .i64 0,g9,gA,gB,gC,gD,gE,gF,gG,gH,gI,gJ,gK,gL,gM,gN,gO,gP,gQ,gR,gS,gT,gU,gV,gW,gX,gY,gZ,hA,hB,hC,hD,hE,hF,hG,hH,hI,hJ,hK,hL,hM,hN,hO,hP,hQ,hR,hS,hT,hU] M := by kernel_rfl
theorem k67_2 : P67 [1] = .seq (P67 [1,0]) (P67 [1,1]) := by kernel_rfl
theorem k67_3 : P67 [1,0] = .block 0 (P67 [1,0,0]) := by kernel_rfl
theorem k67_4 : P67 [1,0,0] = .seq (P67 [1,0,0,0]) (P67 [1,0,0,1]) := by kernel_rfl
theorem k67_5 : P67 [1,0,0,0] = .region 1 (O67 [1,0,0,0]) false := by kernel_rfl
theorem r67_1 {x0 : Int} {M : Mem} {call : CallM} {K : Array Value → Mem → R} :
    opsK Try.prog (fun _ => call) (O67 [1,0,0,0]) (O67 [1,0,0,0]).toList 0 #[.int .i64 x0,g1,g2,g3,g4,g5,g6,g7,g8,g9,gA,gB,gC,gD,gE,gF,gG,gH,gI,gJ,gK,gL,gM,gN,gO,gP,gQ,gR,gS,gT,gU,gV,gW,gX,gY,gZ,hA,hB,hC,hD,hE,hF,hG,hH,hI,hJ,hK,hL,hM,hN,hO,hP,hQ,hR,hS,hT,hU] M K = K #[.int .i64 x0,g1,g2,g3,g4,g5,g6,g7,g8,.bool (x0 == 1),.int .i64 x0,.bool (x0 == 1),gC,gD,gE,gF,gG,gH,gI,gJ,gK,gL,gM,gN,gO,gP,gQ,gR,gS,gT,gU,gV,gW,gX,gY,gZ,hA,hB,hC,hD,hE,hF,hG,hH,hI,hJ,hK,hL,hM,hN,hO,hP,hQ,hR,hS,hT,hU] M := by kernel_rfl
theorem c67_6 : P67 [1,0,0,1] = .cond (.tmp 9) (P67 [1,0,0,1,0]) (P67 [1,0,0,1,1]) := by kernel_rfl
theorem k67_7 : P67 [1,0,0,1,0] = .seq (P67 [1,0,0,1,0,0]) (P67 [1,0,0,1,0,1]) := by kernel_rfl
theorem k67_8 : P67 [1,0,0,1,0,0] = .region 2 (O67 [1,0,0,1,0,0]) false := by kernel_rfl
theorem r67_2 {x1 x2 x3 : Int} {M : Mem} {call : CallM} {K : Array Value → Mem → R} :
    opsK Try.prog (fun _ => call) (O67 [1,0,0,1,0,0]) (O67 [1,0,0,1,0,0]).toList 0 #[g0,.int .i64 x1,.int .i64 x2,.int .i64 x3,g4,g5,g6,g7,g8,g9,gA,gB,gC,gD,gE,gF,gG,gH,gI,gJ,gK,gL,gM,gN,gO,gP,gQ,gR,gS,gT,gU,gV,gW,gX,gY,gZ,hA,hB,hC,hD,hE,hF,hG,hH,hI,hJ,hK,hL,hM,hN,hO,hP,hQ,hR,hS,hT,hU] M K = (binV Try.prog .quo 3 3 (.int .i64 (IntKind.i64.wrap ((IntKind.i64.wrap ((IntKind.i64.wrap ((IntKind.i64.wrap (2 * x3)) + 1)) * (IntKind.i64.wrap ((IntKind.i64.wrap (2 * x2)) + 1)))) * 32))) (.int .i64 x1)).bind fun v_1 => (asI .i64 v_1).bind fun x_2 => (call 74 #[.int .i64 (IntKind.i64.wrap (64 - x_2))] M).bind fun r_3 => (asI .i64 r_3.1).bind fun x_4 => K #[g0,.int .i64 x1,.int .i64 x2,.int .i64 x3,g4,g5,g6,g7,.int .i64 x_4,g9,gA,gB,.int .i64 x3,.int .i64 (IntKind.i64.wrap (2 * x3)),.int .i64 (IntKind.i64.wrap ((IntKind.i64.wrap (2 * x3)) + 1)),.int .i64 x2,.int .i64 (IntKind.i64.wrap (2 * x2)),.int .i64 (IntKind.i64.wrap ((IntKind.i64.wrap (2 * x2)) + 1)),.int .i64 (IntKind.i64.wrap ((IntKind.i64.wrap ((IntKind.i64.wrap (2 * x3)) + 1)) * (IntKind.i64.wrap ((IntKind.i64.wrap (2 * x2)) + 1)))),.int .i64 (IntKind.i64.wrap ((IntKind.i64.wrap ((IntKind.i64.wrap ((IntKind.i64.wrap (2 * x3)) + 1)) * (IntKind.i64.wrap ((IntKind.i64.wrap (2 * x2)) + 1)))) * 32)),.int .i64 x1,.int .i64 x_2,.int .i64 (IntKind.i64.wrap (64 - x_2)),.int .i64 x_4,gO,gP,gQ,gR,gS,gT,gU,gV,gW,gX,gY,gZ,hA,hB,hC,hD,hE,hF,hG,hH,hI,hJ,hK,hL,hM,hN,hO,hP,hQ,hR,hS,hT,hU] r_3.2 := by kernel_rfl
theorem k67_9 : P67 [1,0,0,1,0,1] = .ret := by kernel_rfl
theorem e67 {M : Mem} : finish Try.prog Try.f67 #[g0,g1,g2,g3,g4,g5,g6,g7,g8,g9,gA,gB,gC,gD,gE,gF,gG,gH,gI,gJ,gK,gL,gM,gN,gO,gP,gQ,gR,gS,gT,gU,gV,gW,gX,gY,gZ,hA,hB,hC,hD,hE,hF,hG,hH,hI,hJ,hK,hL,hM,hN,hO,hP,hQ,hR,hS,hT,hU] M = some (g8, M) := by kernel_rfl
theorem k67_11 : P67 [1,0,0,1,1] = .seq (P67 [1,0,0,1,1,0]) (P67 [1,0,0,1,1,1]) := by kernel_rfl
theorem k67_12 : P67 [1,0,0,1,1,0] = .region 3 (O67 [1,0,0,1,1,0]) false := by kernel_rfl
theorem r67_3 {x0 x2 : Int} {M : Mem} {call : CallM} {K : Array Value → Mem → R} :
    opsK Try.prog (fun _ => call) (O67 [1,0,0,1,1,0]) (O67 [1,0,0,1,1,0]).toList 0 #[.int .i64 x0,g1,.int .i64 x2,g3,g4,g5,g6,g7,g8,g9,gA,gB,gC,gD,gE,gF,gG,gH,gI,gJ,gK,gL,gM,gN,gO,gP,gQ,gR,gS,gT,gU,gV,gW,gX,gY,gZ,hA,hB,hC,hD,hE,hF,hG,hH,hI,hJ,hK,hL,hM,hN,hO,hP,hQ,hR,hS,hT,hU] M K = withK (fun w24 w27 w28 w29 w30 M => K #[.int .i64 x0,g1,.int .i64 x2,g3,g4,g5,g6,g7,g8,g9,gA,gB,gC,gD,gE,gF,gG,gH,gI,gJ,gK,gL,gM,gN,w24,.int .i64 x0,.bool (x0 == 0),w27,w28,w29,w30,gV,gW,gX,gY,gZ,hA,hB,hC,hD,hE,hF,hG,hH,hI,hJ,hK,hL,hM,hN,hO,hP,hQ,hR,hS,hT,hU] M) fun k => cond (x0 == 0) (k (.bool (x2 == 0)) (.bool true) (.int .i64 x2) (.bool (x2 == 0)) (.bool (x2 == 0)) M) (k (.bool false) (.bool false) undef undef (.bool false) M) := by kernel_rfl
theorem c67_13 : P67 [1,0,0,1,1,1] = .cond (.tmp 24) (P67 [1,0,0,1,1,1,0]) (P67 [1,0,0,1,1,1,1]) := by kernel_rfl
theorem k67_14 : P67 [1,0,0,1,1,1,0] = .seq (P67 [1,0,0,1,1,1,0,0]) (P67 [1,0,0,1,1,1,0,1]) := by kernel_rfl
theorem k67_15 : P67 [1,0,0,1,1,1,0,0] = .region 4 (O67 [1,0,0,1,1,1,0,0]) false := by kernel_rfl
theorem r67_4 {M : Mem} {call : CallM} {K : Array Value → Mem → R} :
    opsK Try.prog (fun _ => call) (O67 [1,0,0,1,1,1,0,0]) (O67 [1,0,0,1,1,1,0,0]).toList 0 #[g0,g1,g2,g3,g4,g5,g6,g7,g8,g9,gA,gB,gC,gD,gE,gF,gG,gH,gI,gJ,gK,gL,gM,gN,gO,gP,gQ,gR,gS,gT,gU,gV,gW,gX,gY,gZ,hA,hB,hC,hD,hE,hF,hG,hH,hI,hJ,hK,hL,hM,hN,hO,hP,hQ,hR,hS,hT,hU] M K = (call 74 #[.int .i64 32] M).bind fun r_1 => (asI .i64 r_1.1).bind fun x_2 => K #[g0,g1,g2,g3,g4,g5,g6,g7,.int .i64 x_2,g9,gA,gB,gC,gD,gE,gF,gG,gH,gI,gJ,gK,gL,gM,gN,gO,gP,gQ,gR,gS,gT,gU,.int .i64 x_2,gW,gX,gY,gZ,hA,hB,hC,hD,hE,hF,hG,hH,hI,hJ,hK,hL,hM,hN,hO,hP,hQ,hR,hS,hT,hU] r_1.2 := by kernel_rfl
theorem k67_16 : P67 [1,0,0,1,1,1,0,1] = .ret := by kernel_rfl
theorem k67_17 : P67 [1,0,0,1,1,1,1] = .seq (P67 [1,0,0,1,1,1,1,0]) (P67 [1,0,0,1,1,1,1,1]) := by kernel_rfl
theorem k67_18 : P67 [1,0,0,1,1,1,1,0] = .region 5 (O67 [1,0,0,1,1,1,1,0]) false := by kernel_rfl
theorem r67_5 {x0 : Int} {M : Mem} {call : CallM} {K : Array Value → Mem → R} :
    opsK Try.prog (fun _ => call) (O67 [1,0,0,1,1,1,1,0]) (O67 [1,0,0,1,1,1,1,0]).toList 0 #[.int .i64 x0,g1,g2,g3,g4,g5,g6,g7,g8,g9,gA,gB,gC,gD,gE,gF,gG,gH,gI,gJ,gK,gL,gM,gN,gO,gP,gQ,gR,gS,gT,gU,gV,gW,gX,gY,gZ,hA,hB,hC,hD,hE,hF,hG,hH,hI,hJ,hK,hL,hM,hN,hO,hP,hQ,hR,hS,hT,hU] M K = K #[.int .i64 x0,g1,g2,g3,g4,g5,g6,g7,g8,g9,gA,gB,gC,gD,gE,gF,gG,gH,gI,gJ,gK,gL,gM,gN,gO,gP,gQ,gR,gS,gT,gU,gV,.bool (x0 == 0),.int .i64 x0,.bool (x0 == 0),gZ,hA,hB,hC,hD,hE,hF,hG,hH,hI,hJ,hK,hL,hM,hN,hO,hP,hQ,hR,hS,hT,hU] M := by kernel_rfl
theorem c67_19 : P67 [1,0,0,1,1,1,1,1] = .cond (.tmp 32) (P67 [1,0,0,1,1,1,1,1,0]) (P67 [1,0,0,1,1,1,1,1,1]) := by kernel_rfl
theorem k67_20 : P67 [1,0,0,1,1,1,1,1,0] = .seq (P67 [1,0,0,1,1,1,1,1,0,0]) (P67 [1,0,0,1,1,1,1,1,0,1]) := by kernel_rfl
theorem k67_21 : P67 [1,0,0,1,1,1,1,1,0,0] = .region 6 (O67 [1,0,0,1,1,1,1,1,0,0]) false := by kernel_rfl
theorem r67_6 {x1 x2 x3 : Int} {M : Mem} {call : CallM} {K : Array Value → Mem → R} :
    opsK Try.prog (fun _ => call) (O67 [1,0,0,1,1,1,1,1,0,0]) (O67 [1,0,0,1,1,1,1,1,0,0]).toList 0 #[g0,.int .i64 x1,.int .i64 x2,.int .i64 x3,g4,g5,g6,g7,g8,g9,gA,gB,gC,gD,gE,gF,gG,gH,gI,gJ,gK,gL,gM,gN,gO,gP,gQ,gR,gS,gT,gU,gV,gW,gX,gY,gZ,hA,hB,hC,hD,hE,hF,hG,hH,hI,hJ,hK,hL,hM,hN,hO,hP,hQ,hR,hS,hT,hU] M K = (binV Try.prog .quo 3 3 (.int .i64 (IntKind.i64.wrap ((IntKind.i64.wrap ((IntKind.i64.wrap ((IntKind.i64.wrap (2 * x3)) + 1)) * x2)) * 64))) (.int .i64 x1)).bind fun v_1 => (asI .i64 v_1).bind fun x_2 => (call 74 #[.int .i64 x_2] M).bind fun r_3 => (asI .i64 r_3.1).bind fun x_4 => K #[g0,.int .i64 x1,.int .i64 x2,.int .i64 x3,g4,g5,g6,g7,.int .i64 x_4,g9,gA,gB,gC,gD,gE,gF,gG,gH,gI,gJ,gK,gL,gM,gN,gO,gP,gQ,gR,gS,gT,gU,gV,gW,gX,gY,.int .i64 x3,.int .i64 (IntKind.i64.wrap (2 * x3)),.int .i64 (IntKind.i64.wrap ((IntKind.i64.wrap (2 * x3)) + 1)),.int .i64 x2,.int .i64 (IntKind.i64.wrap ((IntKind.i64.wrap ((IntKind.i64.wrap (2 * x3)) + 1)) * x2)),.int .i64 (IntKind.i64.wrap ((IntKind.i64.wrap ((IntKind.i64.wrap ((IntKind.i64.wrap (2 * x3)) + 1)) * x2)) * 64)),.int .i64 x1,.int .i64 x_2,.int .i64 x_4,hI,hJ,hK,hL,hM,hN,hO,hP,hQ,hR,hS,hT,hU] r_3.2 := by kernel_rfl
theorem k67_22 : P67 [1,0,0,1,1,1,1,1,0,1] = .ret := by kernel_rfl
theorem k67_23 : P67 [1,0,0,1,1,1,1,1,1] = .seq (P67 [1,0,0,1,1,1,1,1,1,0]) (P67 [1,0,0,1,1,1,1,1,1,1]) := by kernel_rfl
theorem k67_24 : P67 [1,0,0,1,1,1,1,1,1,0] = .region 7 (O67 [1,0,0,1,1,1,1,1,1,0]) false := by kernel_rfl
theorem r67_7 {x2 x3 : Int} {M : Mem} {call : CallM} {K : Array Value → Mem → R} :
    opsK Try.prog (fun _ => call) (O67 [1,0,0,1,1,1,1,1,1,0]) (O67 [1,0,0,1,1,1,1,1,1,0]).toList 0 #[g0,g1,.int .i64 x2,.int .i64 x3,g4,g5,g6,g7,g8,g9,gA,gB,gC,gD,gE,gF,gG,gH,gI,gJ,gK,gL,gM,gN,gO,gP,gQ,gR,gS,gT,gU,gV,gW,gX,gY,gZ,hA,hB,hC,hD,hE,hF,hG,hH,hI,hJ,hK,hL,hM,hN,hO,hP,hQ,hR,hS,hT,hU] M K = K #[g0,g1,.int .i64 x2,.int .i64 x3,g4,g5,g6,g7,g8,g9,gA,gB,gC,gD,gE,gF,gG,gH,gI,gJ,gK,gL,gM,gN,gO,gP,gQ,gR,gS,gT,gU,gV,gW,gX,gY,gZ,hA,hB,hC,hD,hE,hF,hG,hH,.bool (x2 != x3),.int .i64 x2,.int .i64 x3,.bool (x2 != x3),hM,hN,hO,hP,hQ,hR,hS,hT,hU] M := by kernel_rfl
theorem c67_25 : P67 [1,0,0,1,1,1,1,1,1,1] = .cond (.tmp 44) (P67 [1,0,0,1,1,1,1,1,1,1,0]) (P67 [1,0,0,1,1,1,1,1,1,1,1]) := by kernel_rfl
theorem k67_26 : P67 [1,0,0,1,1,1,1,1,1,1,0] = .seq (P67 [1,0,0,1,1,1,1,1,1,1,0,0]) (P67 [1,0,0,1,1,1,1,1,1,1,0,1]) := by kernel_rfl
theorem k67_27 : P67 [1,0,0,1,1,1,1,1,1,1,0,0] = .region 8 (O67 [1,0,0,1,1,1,1,1,1,1,0,0]) false := by kernel_rfl
theorem r67_8 {M : Mem} {call : CallM} {K : Array Value → Mem → R} :
    opsK Try.prog (fun _ => call) (O67 [1,0,0,1,1,1,1,1,1,1,0,0]) (O67 [1,0,0,1,1,1,1,1,1,1,0,0]).toList 0 #[g0,g1,g2,g3,g4,g5,g6,g7,g8,g9,gA,gB,gC,gD,gE,gF,gG,gH,gI,gJ,gK,gL,gM,gN,gO,gP,gQ,gR,gS,gT,gU,gV,gW,gX,gY,gZ,hA,hB,hC,hD,hE,hF,hG,hH,hI,hJ,hK,hL,hM,hN,hO,hP,hQ,hR,hS,hT,hU] M K = K #[g0,g1,g2,g3,g4,g5,g6,g7,.int .i64 0,g9,gA,gB,gC,gD,gE,gF,gG,gH,gI,gJ,gK,gL,gM,gN,gO,gP,gQ,gR,gS,gT,gU,gV,gW,gX,gY,gZ,hA,hB,hC,hD,hE,hF,hG,hH,hI,hJ,hK,hL,hM,hN,hO,hP,hQ,hR,hS,hT,hU] M := by kernel_rfl
theorem k67_28 : P67 [1,0,0,1,1,1,1,1,1,1,0,1] = .ret := by kernel_rfl
theorem k67_29 : P67 [1,0,0,1,1,1,1,1,1,1,1] = .seq (P67 [1,0,0,1,1,1,1,1,1,1,1,0]) (P67 [1,0,0,1,1,1,1,1,1,1,1,1]) := by kernel_rfl
theorem k67_30 : P67 [1,0,0,1,1,1,1,1,1,1,1,0] = .region 9 (O67 [1,0,0,1,1,1,1,1,1,1,1,0]) false := by kernel_rfl
theorem r67_9 {x1 : Int} {M : Mem} {call : CallM} {K : Array Value → Mem → R} :
    opsK Try.prog (fun _ => call) (O67 [1,0,0,1,1,1,1,1,1,1,1,0]) (O67 [1,0,0,1,1,1,1,1,1,1,1,0]).toList 0 #[g0,.int .i64 x1,g2,g3,g4,g5,g6,g7,g8,g9,gA,gB,gC,gD,gE,gF,gG,gH,gI,gJ,gK,gL,gM,gN,gO,gP,gQ,gR,gS,gT,gU,gV,gW,gX,gY,gZ,hA,hB,hC,hD,hE,hF,hG,hH,hI,hJ,hK,hL,hM,hN,hO,hP,hQ,hR,hS,hT,hU] M K = K #[g0,.int .i64 x1,g2,g3,g4,g5,g6,g7,g8,g9,gA,gB,gC,gD,gE,gF,gG,gH,gI,gJ,gK,gL,gM,gN,gO,gP,gQ,gR,gS,gT,gU,gV,gW,gX,gY,gZ,hA,hB,hC,hD,hE,hF,hG,hH,hI,hJ,hK,hL,.bool (x1 == 4),.int .i64 x1,.bool (x1 == 4),hP,hQ,hR,hS,hT,hU] M := by kernel_rfl
theorem c67_31 : P67 [1,0,0,1,1,1,1,1,1,1,1,1] = .cond (.tmp 48) (P67 [1,0,0,1,1,1,1,1,1,1,1,1,0]) (P67 [1,0,0,1,1,1,1,1,1,1,1,1,1]) := by kernel_rfl
theorem k67_32 : P67 [1,0,0,1,1,1,1,1,1,1,1,1,0] = .seq (P67 [1,0,0,1,1,1,1,1,1,1,1,1,0,0]) (P67 [1,0,0,1,1,1,1,1,1,1,1,1,0,1]) := by kernel_rfl
theorem k67_33 : P67 [1,0,0,1,1,1,1,1,1,1,1,1,0,0] = .region 10 (O67 [1,0,0,1,1,1,1,1,1,1,1,1,0,0]) false := by kernel_rfl
theorem r67_10 {M : Mem} {call : CallM} {K : Array Value → Mem → R} :
    opsK Try.prog (fun _ => call) (O67 [1,0,0,1,1,1,1,1,1,1,1,1,0,0]) (O67 [1,0,0,1,1,1,1,1,1,1,1,1,0,0]).toList 0 #[g0,g1,g2,g3,g4,g5,g6,g7,g8,g9,gA,gB,gC,gD,gE,gF,gG,gH,gI,gJ,gK,gL,gM,gN,gO,gP,gQ,gR,gS,gT,gU,gV,gW,gX,gY,gZ,hA,hB,hC,hD,hE,hF,hG,hH,hI,hJ,hK,hL,hM,hN,hO,hP,hQ,hR,hS,hT,hU] M K = K #[g0,g1,g2,g3,g4,g5,g6,g7,.int .i64 5793,g9,gA,gB,gC,gD,gE,gF,gG,gH,gI,gJ,gK,gL,gM,gN,gO,gP,gQ,gR,gS,gT,gU,gV,gW,gX,gY,gZ,hA,hB,hC,hD,hE,hF,hG,hH,hI,hJ,hK,hL,hM,hN,hO,hP,hQ,hR,hS,hT,hU] M := by kernel_rfl
theorem k67_34 : P67 [1,0,0,1,1,1,1,1,1,1,1,1,0,1] = .ret := by kernel_rfl
theorem k67_35 : P67 [1,0,0,1,1,1,1,1,1,1,1,1,1] = .seq (P67 [1,0,0,1,1,1,1,1,1,1,1,1,1,0]) (P67 [1,0,0,1,1,1,1,1,1,1,1,1,1,1]) := by kernel_rfl
theorem k67_36 : P67 [1,0,0,1,1,1,1,1,1,1,1,1,1,0] = .region 11 (O67 [1,0,0,1,1,1,1,1,1,1,1,1,1,0]) false := by kernel_rfl
theorem r67_11 {x1 : Int} {M : Mem} {call : CallM} {K : Array Value → Mem → R} :
    opsK Try.prog (fun _ => call) (O67 [1,0,0,1,1,1,1,1,1,1,1,1,1,0]) (O67 [1,0,0,1,1,1,1,1,1,1,1,1,1,0]).toList 0 #[g0,.int .i64 x1,g2,g3,g4,g5,g6,g7,g8,g9,gA,gB,gC,gD,gE,gF,gG,gH,gI,gJ,gK,gL,gM,gN,gO,gP,gQ,gR,gS,gT,gU,gV,gW,gX,gY,gZ,hA,hB,hC,hD,hE,hF,hG,hH,hI,hJ,hK,hL,hM,hN,hO,hP,hQ,hR,hS,hT,hU] M K = K #[g0,.int .i64 x1,g2,g3,g4,g5,g6,g7,g8,g9,gA,gB,gC,gD,gE,gF,gG,gH,gI,gJ,gK,gL,gM,gN,gO,gP,gQ,gR,gS,gT,gU,gV,gW,gX,gY,gZ,hA,hB,hC,hD,hE,hF,hG,hH,hI,hJ,hK,hL,hM,hN,hO,.bool (x1 == 8),.int .i64 x1,.bool (x1 == 8),hS,hT,hU] M := by kernel_rfl
theorem c67_37 : P67 [1,0,0,1,1,1,1,1,1,1,1,1,1,1] = .cond (.tmp 51) (P67 [1,0,0,1,1,1,1,1,1,1,1,1,1,1,0]) (P67 [1,0,0,1,1,1,1,1,1,1,1,1,1,1,1]) := by kernel_rfl
theorem k67_38 : P67 [1,0,0,1,1,1,1,1,1,1,1,1,1,1,0] = .seq (P67 [1,0,0,1,1,1,1,1,1,1,1,1,1,1,0,0]) (P67 [1,0,0,1,1,1,1,1,1,1,1,1,1,1,0,1]) := by kernel_rfl
theorem k67_39 : P67 [1,0,0,1,1,1,1,1,1,1,1,1,1,1,0,0] = .region 12 (O67 [1,0,0,1,1,1,1,1,1,1,1,1,1,1,0,0]) false := by kernel_rfl
theorem r67_12 {M : Mem} {call : CallM} {K : Array Value → Mem → R} :
    opsK Try.prog (fun _ => call) (O67 [1,0,0,1,1,1,1,1,1,1,1,1,1,1,0,0]) (O67 [1,0,0,1,1,1,1,1,1,1,1,1,1,1,0,0]).toList 0 #[g0,g1,g2,g3,g4,g5,g6,g7,g8,g9,gA,gB,gC,gD,gE,gF,gG,gH,gI,gJ,gK,gL,gM,gN,gO,gP,gQ,gR,gS,gT,gU,gV,gW,gX,gY,gZ,hA,hB,hC,hD,hE,hF,hG,hH,hI,hJ,hK,hL,hM,hN,hO,hP,hQ,hR,hS,hT,hU] M K = K #[g0,g1,g2,g3,g4,g5,g6,g7,.int .i64 8192,g9,gA,gB,gC,gD,gE,gF,gG,gH,gI,gJ,gK,gL,gM,gN,gO,gP,gQ,gR,gS,gT,gU,gV,gW,gX,gY,gZ,hA,hB,hC,hD,hE,hF,hG,hH,hI,hJ,hK,hL,hM,hN,hO,hP,hQ,hR,hS,hT,hU] M := by kernel_rfl
theorem k67_40 : P67 [1,0,0,1,1,1,1,1,1,1,1,1,1,1,0,1] = .ret := by kernel_rfl
theorem k67_41 : P67 [1,0,0,1,1,1,1,1,1,1,1,1,1,1,1] = .seq (P67 [1,0,0,1,1,1,1,1,1,1,1,1,1,1,1,0]) (P67 [1,0,0,1,1,1,1,1,1,1,1,1,1,1,1,1]) := by kernel_rfl
theorem k67_42 : P67 [1,0,0,1,1,1,1,1,1,1,1,1,1,1,1,0] = .region 13 (O67 [1,0,0,1,1,1,1,1,1,1,1,1,1,1,1,0]) false := by kernel_rfl
theorem r67_13 {x1 : Int} {M : Mem} {call : CallM} {K : Array Value → Mem → R} :
    opsK Try.prog (fun _ => call) (O67 [1,0,0,1,1,1,1,1,1,1,1,1,1,1,1,0]) (O67 [1,0,0,1,1,1,1,1,1,1,1,1,1,1,1,0]).toList 0 #[g0,.int .i64 x1,g2,g3,g4,g5,g6,g7,g8,g9,gA,gB,gC,gD,gE,gF,gG,gH,gI,gJ,gK,gL,gM,gN,gO,gP,gQ,gR,gS,gT,gU,gV,gW,gX,gY,gZ,hA,hB,hC,hD,hE,hF,hG,hH,hI,hJ,hK,hL,hM,hN,hO,hP,hQ,hR,hS,hT,hU] M K = K #[g0,.int .i64 x1,g2,g3,g4,g5,g6,g7,g8,g9,gA,gB,gC,gD,gE,gF,gG,gH,gI,gJ,gK,gL,gM,gN,gO,gP,gQ,gR,gS,gT,gU,gV,gW,gX,gY,gZ,hA,hB,hC,hD,hE,hF,hG,hH,hI,hJ,hK,hL,hM,hN,hO,hP,hQ,hR,.bool (x1 == 16),.int .i64 x1,.bool (x1 == 16)] M := by kernel_rfl
theorem c67_43 : P67 [1,0,0,1,1,1,1,1,1,1,1,1,1,1,1,1] = .cond (.tmp 54) (P67 [1,0,0,1,1,1,1,1,1,1,1,1,1,1,1,1,0]) (P67 [1,0,0,1,1,1,1,1,1,1,1,1,1,1,1,1,1]) := by kernel_rfl
theorem k67_44 : P67 [1,0,0,1,1,1,1,1,1,1,1,1,1,1,1,1,0] = .seq (P67 [1,0,0,1,1,1,1,1,1,1,1,1,1,1,1,1,0,0]) (P67 [1,0,0,1,1,1,1,1,1,1,1,1,1,1,1,1,0,1]) := by kernel_rfl
theorem k67_45 : P67 [1,0,0,1,1,1,1,1,1,1,1,1,1,1,1,1,0,0] = .region 14 (O67 [1,0,0,1,1,1,1,1,1,1,1,1,1,1,1,1,0,0]) false := by kernel_rfl
theorem r67_14 {M : Mem} {call : CallM} {K : Array Value → Mem → R} :
    opsK Try.prog (fun _ => call) (O67 [1,0,0,1,1,1,1,1,1,1,1,1,1,1,1,1,0,0]) (O67 [1,0,0,1,1,1,1,1,1,1,1,1,1,1,1,1,0,0]).toList 0 #[g0,g1,g2,g3,g4,g5,g6,g7,g8,g9,gA,gB,gC,gD,gE,gF,gG,gH,gI,gJ,gK,gL,gM,gN,gO,gP,gQ,gR,gS,gT,gU,gV,gW,gX,gY,gZ,hA,hB,hC,hD,hE,hF,hG,hH,hI,hJ,hK,hL,hM,hN,hO,hP,hQ,hR,hS,hT,hU] M K = K #[g0,g1,g2,g3,g4,g5,g6,g7,.int .i64 11586,g9,gA,gB,gC,gD,gE,gF,gG,gH,gI,gJ,gK,gL,gM,gN,gO,gP,gQ,gR,gS,gT,gU,gV,gW,gX,gY,gZ,hA,hB,hC,hD,hE,hF,hG,hH,hI,hJ,hK,hL,hM,hN,hO,hP,hQ,hR,hS,hT,hU] M := by kernel_rfl
theorem k67_46 : P67 [1,0,0,1,1,1,1,1,1,1,1,1,1,1,1,1,0,1] = .ret := by kernel_rfl
theorem k67_47 : P67 [1,0,0,1,1,1,1,1,1,1,1,1,1,1,1,1,1] = .skip := by kernel_rfl
theorem k67_48 : P67 [1,1] = .seq (P67 [1,1,0]) (P67 [1,1,1]) := by kernel_rfl
theorem k67_49 : P67 [1,1,0] = .region 15 (O67 [1,1,0]) false := by kernel_rfl
theorem r67_15 {M : Mem} {call : CallM} {K : Array Value → Mem → R} :
    opsK Try.prog (fun _ => call) (O67 [1,1,0]) (O67 [1,1,0]).toList 0 #[g0,g1,g2,g3,g4,g5,g6,g7,g8,g9,gA,gB,gC,gD,gE,gF,gG,gH,gI,gJ,gK,gL,gM,gN,gO,gP,gQ,gR,gS,gT,gU,gV,gW,gX,gY,gZ,hA,hB,hC,hD,hE,hF,hG,hH,hI,hJ,hK,hL,hM,hN,hO,hP,hQ,hR,hS,hT,hU] M K = K #[g0,g1,g2,g3,g4,g5,g6,g7,.int .i64 16384,g9,gA,gB,gC,gD,gE,gF,gG,gH,gI,gJ,gK,gL,gM,gN,gO,gP,gQ,gR,gS,gT,gU,gV,gW,gX,gY,gZ,hA,hB,hC,hD,hE,hF,hG,hH,hI,hJ,hK,hL,hM,hN,hO,hP,hQ,hR,hS,hT,hU] M := by kernel_rfl
theorem k67_50 : P67 [1,1,1] = .ret := by kernel_rfl
noncomputable def S67_1 : List Item := [.code (P67 [1,0,0,1,1,1]), .inBlock 0, .code (P67 [1,1])]
def A67_1 (x0 x1 x2 x3 : Int) (x24 : Bool) (M : Mem) (Q : Value → Mem → Prop) : Prop := ∀ (g4 g5 g6 g7 g8 g9 gA gB gC gD gE gF gG gH gI gJ gK gL gM gN gP gQ gR gS gT gU gV gW gX gY gZ hA hB hC hD hE hF hG hH hI hJ hK hL hM hN hO hP hQ hR hS hT hU : Value), Rn Try.prog Try.f67 S67_1 #[.int .i64 x0, .int .i64 x1, .int .i64 x2, .int .i64 x3, g4, g5, g6, g7, g8, g9, gA, gB, gC, gD, gE, gF, gG, gH, gI, gJ, gK, gL, gM, gN, .bool x24, gP, gQ, gR, gS, gT, gU, gV, gW, gX, gY, gZ, hA, hB, hC, hD, hE, hF, hG, hH, hI, hJ, hK, hL, hM, hN, hO, hP, hQ, hR, hS, hT, hU] M Q
theorem w67_0 {x0 x1 x2 x3 : Int} {M : Mem} {Q : Value → Mem → Prop} (H :
    ((x0 = 1 →
     ∃ v1', binV Try.prog .quo 3 3 (.int .i64 (IntKind.i64.wrap ((IntKind.i64.wrap ((IntKind.i64.wrap ((IntKind.i64.wrap (2 * x3)) + 1)) * (IntKind.i64.wrap ((IntKind.i64.wrap (2 * x2)) + 1)))) * 32))) (.int .i64 x1) = some v1' ∧
     ∃ x2', asI .i64 v1' = some x2' ∧
     Cn Try.prog 74 #[.int .i64 (IntKind.i64.wrap (64 - x2'))] M fun v3' N3' =>
      ∃ x4', asI .i64 v3' = some x4' ∧
      Q (.int .i64 (x4')) N3') ∧
     (x0 ≠ 1 →
     ((x0 = 0 →
      A67_1 x0 x1 x2 x3 (x2 == 0) M Q) ∧
      (x0 ≠ 0 →
      A67_1 x0 x1 x2 x3 false M Q))))) :
    Cn Try.prog 67 #[.int .i64 x0, .int .i64 x1, .int .i64 x2, .int .i64 x3] M Q := by
  refine Cn.of b67 d67 t67 ?_
  refine Rn.seq k67_0 (Rn.region k67_1 (fun call K => r67_0) (Rch.leaf (Rn.seq k67_2 (Rn.block k67_3 (Rn.seq k67_4 (Rn.region k67_5 (fun call K => r67_1) (Rch.leaf ?_)))))))
  refine Rn.cnd (v := x0 == 1) ⟨c67_6, rfl, by kernel_rfl⟩ (fun h => ?_) (fun h => ?_)
  · replace H := H.1 (eq_of_beq h)
    refine Rn.seq k67_7 (Rn.region k67_8 (fun call K => r67_2) (Rch.ex H fun v1' H => Rch.ex H fun x2' H => Rch.call H fun v3' N3' H => Rch.ex H fun x4' H => Rch.leaf ?_))
    exact Rn.ret k67_9 e67 H
  · replace H := H.2 (ne_of_beq_false h)
    refine Rn.seq k67_11 (Rn.region k67_12 (fun call K => r67_3) ?_)
    refine Rch.cB (fun h => ?_) (fun h => ?_)
    · replace H := H.1 (eq_of_beq h)
      refine Rch.leaf ?_
      exact H _ _ _ _ _ _ _ _ _ _ _ _ _ _ _ _ _ _ _ _ _ _ _ _ _ _ _ _ _ _ _ _ _ _ _ _ _ _ _ _ _ _ _ _ _ _ _ _ _ _ _ _
    · replace H := H.2 (ne_of_beq_false h)
      refine Rch.leaf ?_
      exact H _ _ _ _ _ _ _ _ _ _ _ _ _ _ _ _ _ _ _ _ _ _ _ _ _ _ _ _ _ _ _ _ _ _ _ _ _ _ _ _ _ _ _ _ _ _ _ _ _ _ _ _

theorem w67_1 {x0 x1 x2 x3 : Int} {x24 : Bool} {M : Mem} {Q : Value → Mem → Prop} (H :
    ((x24 = true →
     Cn Try.prog 74 #[.int .i64 32] M fun v5' N5' =>
      ∃ x6', asI .i64 v5' = some x6' ∧
      Q (.int .i64 (x6')) N5') ∧
     (x24 = false →
     ((x0 = 0 →
      ∃ v7', binV Try.prog .quo 3 3 (.int .i64 (IntKind.i64.wrap ((IntKind.i64.wrap ((IntKind.i64.wrap ((IntKind.i64.wrap (2 * x3)) + 1)) * x2)) * 64))) (.int .i64 x1) = some v7' ∧
      ∃ x8', asI .i64 v7' = some x8' ∧
      Cn Try.prog 74 #[.int .i64 x8'] M fun v9' N9' =>
       ∃ x10', asI .i64 v9' = some x10' ∧
       Q (.int .i64 (x10')) N9') ∧
      (x0 ≠ 0 →
      ((x2 ≠ x3 →
       Q (.int .i64 0) M) ∧
       (x2 = x3 →
       ((x1 = 4 →
        Q (.int .i64 5793) M) ∧
        (x1 ≠ 4 →
        ((x1 = 8 →
         Q (.int .i64 8192) M) ∧
         (x1 ≠ 8 →
         ((x1 = 16 →
          Q (.int .i64 11586) M) ∧
          (x1 ≠ 16 →
          Q (.int .i64 16384) M))))))))))))) :
    A67_1 x0 x1 x2 x3 x24 M Q := by
  intro g4 g5 g6 g7 g8 g9 gA gB gC gD gE gF gG gH gI gJ gK gL gM gN gP gQ gR gS gT gU gV gW gX gY gZ hA hB hC hD hE hF hG hH hI hJ hK hL hM hN hO hP hQ hR hS hT hU
  refine Rn.cnd (v := x24) ⟨c67_13, rfl, by kernel_rfl⟩ (fun h => ?_) (fun h => ?_)
  · replace H := H.1 (h)
    refine Rn.seq k67_14 (Rn.region k67_15 (fun call K => r67_4) (Rch.call H fun v5' N5' H => Rch.ex H fun x6' H => Rch.leaf ?_))
    exact Rn.ret k67_16 e67 H
  · replace H := H.2 (h)
    refine Rn.seq k67_17 (Rn.region k67_18 (fun call K => r67_5) (Rch.leaf ?_))
    refine Rn.cnd (v := x0 == 0) ⟨c67_19, rfl, by kernel_rfl⟩ (fun h => ?_) (fun h => ?_)
    · replace H := H.1 (eq_of_beq h)
      refine Rn.seq k67_20 (Rn.region k67_21 (fun call K => r67_6) (Rch.ex H fun v7' H => Rch.ex H fun x8' H => Rch.call H fun v9' N9' H => Rch.ex H fun x10' H => Rch.leaf ?_))
      exact Rn.ret k67_22 e67 H
    · replace H := H.2 (ne_of_beq_false h)
      refine Rn.seq k67_23 (Rn.region k67_24 (fun call K => r67_7) (Rch.leaf ?_))
      refine Rn.cnd (v := x2 != x3) ⟨c67_25, rfl, by kernel_rfl⟩ (fun h => ?_) (fun h => ?_)
      · replace H := H.1 (ne_of_bneT h)
        refine Rn.seq k67_26 (Rn.region k67_27 (fun call K => r67_8) (Rch.leaf ?_))
        exact Rn.ret k67_28 e67 H
      · replace H := H.2 (eq_of_bneF h)
        refine Rn.seq k67_29 (Rn.region k67_30 (fun call K => r67_9) (Rch.leaf ?_))
        refine Rn.cnd (v := x1 == 4) ⟨c67_31, rfl, by kernel_rfl⟩ (fun h => ?_) (fun h => ?_)
        · replace H := H.1 (eq_of_beq h)
          refine Rn.seq k67_32 (Rn.region k67_33 (fun call K => r67_10) (Rch.leaf ?_))
          exact Rn.ret k67_34 e67 H
        · replace H := H.2 (ne_of_beq_false h)
          refine Rn.seq k67_35 (Rn.region k67_36 (fun call K => r67_11) (Rch.leaf ?_))
          refine Rn.cnd (v := x1 == 8) ⟨c67_37, rfl, by kernel_rfl⟩ (fun h => ?_) (fun h => ?_)
          · replace H := H.1 (eq_of_beq h)
            refine Rn.seq k67_38 (Rn.region k67_39 (fun call K => r67_12) (Rch.leaf ?_))
            exact Rn.ret k67_40 e67 H
          · replace H := H.2 (ne_of_beq_false h)
            refine Rn.seq k67_41 (Rn.region k67_42 (fun call K => r67_13) (Rch.leaf ?_))
            refine Rn.cnd (v := x1 == 16) ⟨c67_43, rfl, by kernel_rfl⟩ (fun h => ?_) (fun h => ?_)
            · replace H := H.1 (eq_of_beq h)
              refine Rn.seq k67_44 (Rn.region k67_45 (fun call K => r67_14) (Rch.leaf ?_))
              exact Rn.ret k67_46 e67 H
            · replace H := H.2 (ne_of_beq_false h)
              refine Rn.skip k67_47 (Rn.blk (Rn.seq k67_48 (Rn.region k67_49 (fun call K => r67_15) (Rch.leaf ?_))))
              exact Rn.ret k67_50 e67 H


end Go.Zt

