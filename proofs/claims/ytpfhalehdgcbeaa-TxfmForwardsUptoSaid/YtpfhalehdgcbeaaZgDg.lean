/- The functions' walks: for each function and each loop a rule of what it comes to. Printed by zw.py. -/
import Derived.Test.YtpfhalehdgcbeaaProg
import Derived.Test.YtpfhalehdgcbeaaZgA
set_option linter.unusedVariables false
set_option maxRecDepth 100000
namespace Go.Zt
open Go Go.Sim Go.Proofs

variable {g0 g1 g2 g3 g4 g5 g6 g7 g8 g9 gA gB gC gD gE gF gG gH gI gJ gK gL gM gN gO gP gQ gR gS gT gU gV gW gX gY gZ hA hB : Value}
/-! ### zoetrope/zoetropelaw08.TxfmInverts: function 3 -/
noncomputable abbrev P3 (p : List Nat) : Code := subC (codeOf Try.f3) p
noncomputable abbrev O3 (p : List Nat) : Array Oper := opsOf (subC (codeOf Try.f3) p)
theorem e3 {M : Mem} : finish Try.prog Try.f3 #[g0,g1,g2,g3,g4,g5,g6,g7,g8,g9,gA,gB,gC,gD,gE,gF,gG,gH,gI,gJ,gK,gL,gM,gN,gO,gP,gQ,gR,gS,gT,gU,gV,gW,gX,gY,gZ,hA,hB] M = some (g6, M) := by kernel_rfl
/-! ### zoetrope/zoetropelaw08.TxfmForwards: function 4 -/
noncomputable abbrev P4 (p : List Nat) : Code := subC (codeOf Try.f4) p
noncomputable abbrev O4 (p : List Nat) : Array Oper := opsOf (subC (codeOf Try.f4) p)
theorem b4 : Try.prog.funcs[4]? = some Try.f4 ∧ (Orc.tab Try.prog).lookup 4 = none := ⟨by kernel_rfl, by kernel_rfl⟩
theorem d4 : Try.f4.body = some (P4 []) := by kernel_rfl
theorem t4 {x0 x1 : Int} {Ax2 : Option Addr} {lx2 cx2 : Nat} : #[.int .i64 x0,.int .i64 x1,.slice Ax2 lx2 cx2] ++ Array.replicate (Try.f4.ntmps - (#[.int .i64 x0,.int .i64 x1,.slice Ax2 lx2 cx2] : Array Value).size) undef = #[.int .i64 x0,.int .i64 x1,.slice Ax2 lx2 cx2,undef,undef,undef,undef,undef,undef,undef,undef,undef,undef,undef,undef,undef,undef,undef,undef,undef,undef,undef,undef,undef,undef,undef,undef,undef,undef,undef,undef,undef,undef,undef,undef,undef,undef,undef] := by kernel_rfl
theorem k4_0 : P4 [] = .seq (P4 [0]) (P4 [1]) := by kernel_rfl
theorem k4_1 : P4 [0] = .region 0 (O4 [0]) false := by kernel_rfl
theorem r4_0 {M : Mem} {call : CallM} {K : Array Value → Mem → R} :
    opsK Try.prog (fun _ => call) (O4 [0]) (O4 [0]).toList 0 #[g0,g1,g2,g3,g4,g5,g6,g7,g8,g9,gA,gB,gC,gD,gE,gF,gG,gH,gI,gJ,gK,gL,gM,gN,gO,gP,gQ,gR,gS,gT,gU,gV,gW,gX,gY,gZ,hA,hB] M K = K #[g0,g1,g2,g3,g4,g5,.bool false,g7,g8,g9,gA,gB,gC,gD,gE,gF,gG,gH,gI,gJ,gK,gL,gM,gN,gO,gP,gQ,gR,gS,gT,gU,gV,gW,gX,gY,gZ,hA,hB] M := by kernel_rfl
theorem k4_2 : P4 [1] = .seq (P4 [1,0]) (P4 [1,1]) := by kernel_rfl
theorem k4_3 : P4 [1,0] = .region 1 (O4 [1,0]) false := by kernel_rfl
theorem r4_1 {Ax2 : Option Addr} {lx2 cx2 : Nat} {M : Mem} {call : CallM} {K : Array Value → Mem → R} :
    opsK Try.prog (fun _ => call) (O4 [1,0]) (O4 [1,0]).toList 0 #[g0,g1,.slice Ax2 lx2 cx2,g3,g4,g5,g6,g7,g8,g9,gA,gB,gC,gD,gE,gF,gG,gH,gI,gJ,gK,gL,gM,gN,gO,gP,gQ,gR,gS,gT,gU,gV,gW,gX,gY,gZ,hA,hB] M K = (call 11 #[.slice Ax2 lx2 cx2] M).bind fun r_1 => (asS r_1.1).bind fun s_2 => K #[g0,g1,.slice Ax2 lx2 cx2,g3,g4,g5,g6,.slice s_2.1 (s_2.2.1) (s_2.2.2),g8,g9,gA,gB,.slice Ax2 lx2 cx2,.slice s_2.1 (s_2.2.1) (s_2.2.2),gE,gF,gG,gH,gI,gJ,gK,gL,gM,gN,gO,gP,gQ,gR,gS,gT,gU,gV,gW,gX,gY,gZ,hA,hB] r_1.2 := by kernel_rfl
theorem k4_4 : P4 [1,1] = .seq (P4 [1,1,0]) (P4 [1,1,1]) := by kernel_rfl
theorem k4_5 : P4 [1,1,0] = .region 2 (O4 [1,1,0]) false := by kernel_rfl
theorem r4_2 {x0 x1 : Int} {Ax7 : Option Addr} {lx7 cx7 : Nat} {M : Mem} {call : CallM} {K : Array Value → Mem → R} :
    opsK Try.prog (fun _ => call) (O4 [1,1,0]) (O4 [1,1,0]).toList 0 #[.int .i64 x0,.int .i64 x1,g2,g3,g4,g5,g6,.slice Ax7 lx7 cx7,g8,g9,gA,gB,gC,gD,gE,gF,gG,gH,gI,gJ,gK,gL,gM,gN,gO,gP,gQ,gR,gS,gT,gU,gV,gW,gX,gY,gZ,hA,hB] M K = (call 16 #[.int .i64 x0, .int .i64 x1, .slice Ax7 lx7 cx7] M).bind fun r_1 => (asU 2 r_1.1).bind fun cs_2 => (asS (cs_2.getD 0 undef)).bind fun s_3 => (asI .i64 (cs_2.getD 1 undef)).bind fun x_4 => K #[.int .i64 x0,.int .i64 x1,g2,g3,g4,g5,g6,.slice Ax7 lx7 cx7,.slice s_3.1 (s_3.2.1) (s_3.2.2),.int .i64 x_4,gA,gB,gC,gD,.tuple #[.slice s_3.1 (s_3.2.1) (s_3.2.2), .int .i64 x_4],.int .i64 x0,.int .i64 x1,.slice Ax7 lx7 cx7,.tuple #[.slice s_3.1 (s_3.2.1) (s_3.2.2), .int .i64 x_4],.slice s_3.1 (s_3.2.1) (s_3.2.2),.int .i64 x_4,gL,gM,gN,gO,gP,gQ,gR,gS,gT,gU,gV,gW,gX,gY,gZ,hA,hB] r_1.2 := by kernel_rfl
theorem k4_6 : P4 [1,1,1] = .seq (P4 [1,1,1,0]) (P4 [1,1,1,1]) := by kernel_rfl
theorem k4_7 : P4 [1,1,1,0] = .region 3 (O4 [1,1,1,0]) false := by kernel_rfl
theorem r4_3 {x0 x1 : Int} {Ax2 : Option Addr} {lx2 cx2 : Nat} {M : Mem} {call : CallM} {K : Array Value → Mem → R} :
    opsK Try.prog (fun _ => call) (O4 [1,1,1,0]) (O4 [1,1,1,0]).toList 0 #[.int .i64 x0,.int .i64 x1,.slice Ax2 lx2 cx2,g3,g4,g5,g6,g7,g8,g9,gA,gB,gC,gD,gE,gF,gG,gH,gI,gJ,gK,gL,gM,gN,gO,gP,gQ,gR,gS,gT,gU,gV,gW,gX,gY,gZ,hA,hB] M K = (call 17 #[.int .i64 x0, .int .i64 x1, .slice Ax2 lx2 cx2] M).bind fun r_1 => (asU 2 r_1.1).bind fun cs_2 => (asS (cs_2.getD 0 undef)).bind fun s_3 => (asI .i64 (cs_2.getD 1 undef)).bind fun x_4 => K #[.int .i64 x0,.int .i64 x1,.slice Ax2 lx2 cx2,g3,g4,g5,g6,g7,g8,g9,.slice s_3.1 (s_3.2.1) (s_3.2.2),.int .i64 x_4,gC,gD,gE,gF,gG,gH,gI,gJ,gK,.tuple #[.slice s_3.1 (s_3.2.1) (s_3.2.2), .int .i64 x_4],.int .i64 x0,.int .i64 x1,.slice Ax2 lx2 cx2,.tuple #[.slice s_3.1 (s_3.2.1) (s_3.2.2), .int .i64 x_4],.slice s_3.1 (s_3.2.1) (s_3.2.2),.int .i64 x_4,gS,gT,gU,gV,gW,gX,gY,gZ,hA,hB] r_1.2 := by kernel_rfl
theorem k4_8 : P4 [1,1,1,1] = .seq (P4 [1,1,1,1,0]) (P4 [1,1,1,1,1]) := by kernel_rfl
theorem k4_9 : P4 [1,1,1,1,0] = .region 4 (O4 [1,1,1,1,0]) false := by kernel_rfl
theorem r4_4 {Ax2 : Option Addr} {lx2 cx2 : Nat} {Ax7 : Option Addr} {lx7 cx7 : Nat} {Ax8 : Option Addr} {lx8 cx8 : Nat} {x9 : Int} {Ax10 : Option Addr} {lx10 cx10 : Nat} {x11 : Int} {M : Mem} {call : CallM} {K : Array Value → Mem → R} :
    opsK Try.prog (fun _ => call) (O4 [1,1,1,1,0]) (O4 [1,1,1,1,0]).toList 0 #[g0,g1,.slice Ax2 lx2 cx2,g3,g4,g5,g6,.slice Ax7 lx7 cx7,.slice Ax8 lx8 cx8,.int .i64 x9,.slice Ax10 lx10 cx10,.int .i64 x11,gC,gD,gE,gF,gG,gH,gI,gJ,gK,gL,gM,gN,gO,gP,gQ,gR,gS,gT,gU,gV,gW,gX,gY,gZ,hA,hB] M K = withK (fun w6 w34 w35 w36 w37 M => K #[g0,g1,.slice Ax2 lx2 cx2,g3,g4,g5,w6,.slice Ax7 lx7 cx7,.slice Ax8 lx8 cx8,.int .i64 x9,.slice Ax10 lx10 cx10,.int .i64 x11,gC,gD,gE,gF,gG,gH,gI,gJ,gK,gL,gM,gN,gO,gP,gQ,gR,.slice Ax8 lx8 cx8,.int .i64 x9,.slice Ax10 lx10 cx10,.int .i64 x11,.slice Ax7 lx7 cx7,.slice Ax2 lx2 cx2,w34,w35,w36,w37] M) fun k => (call 14 #[.slice Ax8 lx8 cx8, .int .i64 x9, .slice Ax10 lx10 cx10, .int .i64 x11, .slice Ax7 lx7 cx7, .slice Ax2 lx2 cx2] M).bind fun r_1 => (asB r_1.1).bind fun b_2 => cond b_2 ((call 15 #[] r_1.2).bind fun r_3 => (asB r_3.1).bind fun b_4 => k (.bool b_4) (.bool b_2) (.bool true) (.bool b_4) (.bool b_4) r_3.2) (k (.bool false) (.bool b_2) (.bool false) undef (.bool false) r_1.2) := by kernel_rfl
theorem k4_10 : P4 [1,1,1,1,1] = .ret := by kernel_rfl
theorem e4 {M : Mem} : finish Try.prog Try.f4 #[g0,g1,g2,g3,g4,g5,g6,g7,g8,g9,gA,gB,gC,gD,gE,gF,gG,gH,gI,gJ,gK,gL,gM,gN,gO,gP,gQ,gR,gS,gT,gU,gV,gW,gX,gY,gZ,hA,hB] M = some (g6, M) := by kernel_rfl
theorem w4_0 {x0 x1 : Int} {Ax2 : Option Addr} {lx2 cx2 : Nat} {M : Mem} {Q : Value → Mem → Prop} (H :
    Cn Try.prog 11 #[.slice Ax2 lx2 cx2] M fun v1' N1' =>
     ∃ s2', asS v1' = some s2' ∧
     Cn Try.prog 16 #[.int .i64 x0, .int .i64 x1, .slice s2'.1 s2'.2.1 s2'.2.2] N1' fun v3' N3' =>
      ∃ cs4', asU 2 v3' = some cs4' ∧
      ∃ s5', asS (cs4'.getD 0 undef) = some s5' ∧
      ∃ x6', asI .i64 (cs4'.getD 1 undef) = some x6' ∧
      Cn Try.prog 17 #[.int .i64 x0, .int .i64 x1, .slice Ax2 lx2 cx2] N3' fun v7' N7' =>
       ∃ cs8', asU 2 v7' = some cs8' ∧
       ∃ s9', asS (cs8'.getD 0 undef) = some s9' ∧
       ∃ x10', asI .i64 (cs8'.getD 1 undef) = some x10' ∧
       Cn Try.prog 14 #[.slice s5'.1 s5'.2.1 s5'.2.2, .int .i64 x6', .slice s9'.1 s9'.2.1 s9'.2.2, .int .i64 x10', .slice s2'.1 s2'.2.1 s2'.2.2, .slice Ax2 lx2 cx2] N7' fun v11' N11' =>
        ∃ b12', asB v11' = some b12' ∧
        ((b12' = true →
         Cn Try.prog 15 #[] N11' fun v13' N13' =>
          ∃ b14', asB v13' = some b14' ∧
          Q (.bool b14') N13') ∧
         (b12' = false →
         Q (.bool false) N11'))) :
    Cn Try.prog 4 #[.int .i64 x0, .int .i64 x1, .slice Ax2 lx2 cx2] M Q := by
  refine Cn.of b4 d4 t4 ?_
  refine Rn.seq k4_0 (Rn.region k4_1 (fun call K => r4_0) (Rch.leaf (Rn.seq k4_2 (Rn.region k4_3 (fun call K => r4_1) (Rch.call H fun v1' N1' H => Rch.ex H fun s2' H => Rch.leaf (Rn.seq k4_4 (Rn.region k4_5 (fun call K => r4_2) (Rch.call H fun v3' N3' H => Rch.ex H fun cs4' H => ?_))))))))
  refine Rch.ex H fun s5' H => Rch.ex H fun x6' H => Rch.leaf (Rn.seq k4_6 (Rn.region k4_7 (fun call K => r4_3) (Rch.call H fun v7' N7' H => Rch.ex H fun cs8' H => Rch.ex H fun s9' H => Rch.ex H fun x10' H => Rch.leaf (Rn.seq k4_8 (Rn.region k4_9 (fun call K => r4_4) ?_)))))
  refine Rch.call H fun v11' N11' H => Rch.ex H fun b12' H => ?_
  refine Rch.cB (fun h => ?_) (fun h => ?_)
  · replace H := H.1 (h)
    refine Rch.call H fun v13' N13' H => Rch.ex H fun b14' H => Rch.leaf ?_
    exact Rn.ret k4_10 e4 H
  · replace H := H.2 (h)
    refine Rch.leaf ?_
    exact Rn.ret k4_10 e4 H


end Go.Zt

