/- The functions' walks: for each function and each loop a rule of what it comes to. Printed by zw.py. -/
import Derived.Test.YtnhfoiijkadajaaProg
import Derived.Test.YtnhfoiijkadajaaZeA
set_option linter.unusedVariables false
set_option maxRecDepth 100000
namespace Go.Zu
open Go Go.Sim Go.Proofs
variable {g0 g1 g2 g3 g4 g5 g6 g7 g8 g9 gA gB gC gD gE gF gG gH gI gJ gK gL gM gN gO gP gQ gR gS gT gU gV gW gX gY gZ hA hB hC hD hE hF hG hH hI hJ hK hL hM hN hO hP hQ hR hS hT hU hV hW hX hY hZ h0 h1 h2 h3 h4 h5 h6 h7 h8 h9 jA jB jC jD jE jF jG jH jI jJ jK jL jM jN jO jP jQ jR jS jT jU jV jW jX jY jZ j0 j1 j2 j3 j4 j5 j6 j7 j8 j9 kA kB kC kD kE kF kG kH kI kJ kK kL kM kN kO kP kQ kR kS kT kU kV kW kX kY kZ k0 k1 k2 k3 k4 k5 k6 k7 k8 k9 mA mB mC mD mE mF mG mH mI mJ mK mL mM mN mO mP:Value}
noncomputable abbrev P9 (p:List Nat):Code:=subC (codeOf Try.f9) p
noncomputable abbrev O9 (p:List Nat):Array Oper:=opsOf (subC (codeOf Try.f9) p)
theorem b9:Try.prog.funcs[9]?=some Try.f9∧(Orc.tab Try.prog).lookup 9=none:=⟨by kernel_rfl,by kernel_rfl⟩
theorem d9:Try.f9.body=some (P9 []):=by kernel_rfl
theorem t9:#[] ++ Array.replicate (Try.f9.ntmps-(#[]:Array Value).size) undef=#[undef,undef,undef,undef,undef,undef,undef,undef,undef,undef,undef,undef,undef,undef,undef,undef,undef,undef,undef,undef,undef,undef,undef,undef,undef,undef,undef,undef,undef,undef,undef,undef,undef,undef,undef,undef,undef,undef,undef,undef,undef,undef,undef,undef,undef,undef,undef,undef,undef,undef,undef,undef,undef,undef,undef,undef,undef,undef,undef,undef,undef,undef,undef,undef,undef,undef,undef,undef,undef,undef,undef,undef,undef,undef,undef,undef,undef,undef,undef,undef,undef,undef,undef,undef,undef,undef,undef,undef,undef,undef,undef,undef,undef,undef,undef,undef,undef,undef,undef,undef,undef,undef,undef,undef,undef,undef,undef,undef,undef,undef,undef,undef,undef,undef,undef,undef,undef,undef,undef,undef,undef,undef,undef,undef,undef,undef,undef,undef,undef,undef,undef,undef,undef,undef,undef,undef,undef,undef,undef,undef,undef,undef,undef,undef,undef,undef,undef,undef,undef,undef,undef,undef,undef,undef,undef,undef,undef,undef,undef,undef]:=by kernel_rfl
theorem k9_0:P9 []=.seq (P9 [0]) (P9 [1]):=by kernel_rfl
theorem k9_1:P9 [0]=.region 0 (O9 [0]) false:=by kernel_rfl
theorem r9_0 {M:Mem} {call:CallM} {K:Array Value→Mem→R} :
 opsK Try.prog (fun _=>call) (O9 [0]) (O9 [0]).toList 0 #[g0,g1,g2,g3,g4,g5,g6,g7,g8,g9,gA,gB,gC,gD,gE,gF,gG,gH,gI,gJ,gK,gL,gM,gN,gO,gP,gQ,gR,gS,gT,gU,gV,gW,gX,gY,gZ,hA,hB,hC,hD,hE,hF,hG,hH,hI,hJ,hK,hL,hM,hN,hO,hP,hQ,hR,hS,hT,hU,hV,hW,hX,hY,hZ,h0,h1,h2,h3,h4,h5,h6,h7,h8,h9,jA,jB,jC,jD,jE,jF,jG,jH,jI,jJ,jK,jL,jM,jN,jO,jP,jQ,jR,jS,jT,jU,jV,jW,jX,jY,jZ,j0,j1,j2,j3,j4,j5,j6,j7,j8,j9,kA,kB,kC,kD,kE,kF,kG,kH,kI,kJ,kK,kL,kM,kN,kO,kP,kQ,kR,kS,kT,kU,kV,kW,kX,kY,kZ,k0,k1,k2,k3,k4,k5,k6,k7,k8,k9,mA,mB,mC,mD,mE,mF,mG,mH,mI,mJ,mK,mL,mM,mN,mO,mP] M K=K #[.bool false,g1,g2,g3,g4,g5,g6,g7,g8,g9,gA,gB,gC,gD,gE,gF,gG,gH,gI,gJ,gK,gL,gM,gN,gO,gP,gQ,gR,gS,gT,gU,gV,gW,gX,gY,gZ,hA,hB,hC,hD,hE,hF,hG,hH,hI,hJ,hK,hL,hM,hN,hO,hP,hQ,hR,hS,hT,hU,hV,hW,hX,hY,hZ,h0,h1,h2,h3,h4,h5,h6,h7,h8,h9,jA,jB,jC,jD,jE,jF,jG,jH,jI,jJ,jK,jL,jM,jN,jO,jP,jQ,jR,jS,jT,jU,jV,jW,jX,jY,jZ,j0,j1,j2,j3,j4,j5,j6,j7,j8,j9,kA,kB,kC,kD,kE,kF,kG,kH,kI,kJ,kK,kL,kM,kN,kO,kP,kQ,kR,kS,kT,kU,kV,kW,kX,kY,kZ,k0,k1,k2,k3,k4,k5,k6,k7,k8,k9,mA,mB,mC,mD,mE,mF,mG,mH,mI,mJ,mK,mL,mM,mN,mO,mP] M:=by kernel_rfl
theorem k9_2:P9 [1]=.seq (P9 [1,0]) (P9 [1,1]):=by kernel_rfl
theorem k9_3:P9 [1,0]=.region 1 (O9 [1,0]) false:=by kernel_rfl
theorem r9_1 {M:Mem} {call:CallM} {K:Array Value→Mem→R} :
 opsK Try.prog (fun _=>call) (O9 [1,0]) (O9 [1,0]).toList 0 #[g0,g1,g2,g3,g4,g5,g6,g7,g8,g9,gA,gB,gC,gD,gE,gF,gG,gH,gI,gJ,gK,gL,gM,gN,gO,gP,gQ,gR,gS,gT,gU,gV,gW,gX,gY,gZ,hA,hB,hC,hD,hE,hF,hG,hH,hI,hJ,hK,hL,hM,hN,hO,hP,hQ,hR,hS,hT,hU,hV,hW,hX,hY,hZ,h0,h1,h2,h3,h4,h5,h6,h7,h8,h9,jA,jB,jC,jD,jE,jF,jG,jH,jI,jJ,jK,jL,jM,jN,jO,jP,jQ,jR,jS,jT,jU,jV,jW,jX,jY,jZ,j0,j1,j2,j3,j4,j5,j6,j7,j8,j9,kA,kB,kC,kD,kE,kF,kG,kH,kI,kJ,kK,kL,kM,kN,kO,kP,kQ,kR,kS,kT,kU,kV,kW,kX,kY,kZ,k0,k1,k2,k3,k4,k5,k6,k7,k8,k9,mA,mB,mC,mD,mE,mF,mG,mH,mI,mJ,mK,mL,mM,mN,mO,mP] M K=K #[g0,.slice (some ⟨2*M.nb.size,0,none⟩) 6 6,g2,g3,g4,g5,g6,g7,g8,g9,.agg #[.int .i64 130,.int .i64 70],.agg #[.int .i64 16,.int .i64 16],.agg #[.int .i64 256,.int .i64 256],.agg #[.int .i64 15,.int .i64 16],.agg #[.int .i64 258,.int .i64 16],.agg #[.int .i64 0,.int .i64 0],.slice (some ⟨2*M.nb.size,0,none⟩) 6 6,gH,gI,gJ,gK,gL,gM,gN,gO,gP,gQ,gR,gS,gT,gU,gV,gW,gX,gY,gZ,hA,hB,hC,hD,hE,hF,hG,hH,hI,hJ,hK,hL,hM,hN,hO,hP,hQ,hR,hS,hT,hU,hV,hW,hX,hY,hZ,h0,h1,h2,h3,h4,h5,h6,h7,h8,h9,jA,jB,jC,jD,jE,jF,jG,jH,jI,jJ,jK,jL,jM,jN,jO,jP,jQ,jR,jS,jT,jU,jV,jW,jX,jY,jZ,j0,j1,j2,j3,j4,j5,j6,j7,j8,j9,kA,kB,kC,kD,kE,kF,kG,kH,kI,kJ,kK,kL,kM,kN,kO,kP,kQ,kR,kS,kT,kU,kV,kW,kX,kY,kZ,k0,k1,k2,k3,k4,k5,k6,k7,k8,k9,mA,mB,mC,mD,mE,mF,mG,mH,mI,mJ,mK,mL,mM,mN,mO,mP] (M.new (.cells #[.int .i64 130,.int .i64 70,.int .i64 16,.int .i64 16,.int .i64 256,.int .i64 256,.int .i64 15,.int .i64 16,.int .i64 258,.int .i64 16,.int .i64 0,.int .i64 0] 32)):=by kernel_rfl
theorem k9_4:P9 [1,1]=.seq (P9 [1,1,0]) (P9 [1,1,1]):=by kernel_rfl
theorem k9_5:P9 [1,1,0]=.region 2 (O9 [1,1,0]) false:=by kernel_rfl
theorem r9_2 {M:Mem} {call:CallM} {K:Array Value→Mem→R} :
 opsK Try.prog (fun _=>call) (O9 [1,1,0]) (O9 [1,1,0]).toList 0 #[g0,g1,g2,g3,g4,g5,g6,g7,g8,g9,gA,gB,gC,gD,gE,gF,gG,gH,gI,gJ,gK,gL,gM,gN,gO,gP,gQ,gR,gS,gT,gU,gV,gW,gX,gY,gZ,hA,hB,hC,hD,hE,hF,hG,hH,hI,hJ,hK,hL,hM,hN,hO,hP,hQ,hR,hS,hT,hU,hV,hW,hX,hY,hZ,h0,h1,h2,h3,h4,h5,h6,h7,h8,h9,jA,jB,jC,jD,jE,jF,jG,jH,jI,jJ,jK,jL,jM,jN,jO,jP,jQ,jR,jS,jT,jU,jV,jW,jX,jY,jZ,j0,j1,j2,j3,j4,j5,j6,j7,j8,j9,kA,kB,kC,kD,kE,kF,kG,kH,kI,kJ,kK,kL,kM,kN,kO,kP,kQ,kR,kS,kT,kU,kV,kW,kX,kY,kZ,k0,k1,k2,k3,k4,k5,k6,k7,k8,k9,mA,mB,mC,mD,mE,mF,mG,mH,mI,mJ,mK,mL,mM,mN,mO,mP] M K=K #[g0,g1,.slice (some ⟨2*M.nb.size,0,none⟩) 6 6,g3,g4,g5,g6,g7,g8,g9,gA,gB,gC,gD,gE,gF,gG,.agg #[.int .i64 64,.int .i64 0,.int .i64 72,.int .i64 72],.agg #[.int .i64 0,.int .i64 0,.int .i64 0,.int .i64 0],.agg #[.int .i64 0,.int .i64 0,.int .i64 256,.int .i64 256],.agg #[.int .i64 0,.int .i64 0,.int .i64 257,.int .i64 1],.agg #[.int .i64 (-1),.int .i64 0,.int .i64 1,.int .i64 1],.agg #[.int .i64 256,.int .i64 256,.int .i64 1,.int .i64 1],.slice (some ⟨2*M.nb.size,0,none⟩) 6 6,gO,gP,gQ,gR,gS,gT,gU,gV,gW,gX,gY,gZ,hA,hB,hC,hD,hE,hF,hG,hH,hI,hJ,hK,hL,hM,hN,hO,hP,hQ,hR,hS,hT,hU,hV,hW,hX,hY,hZ,h0,h1,h2,h3,h4,h5,h6,h7,h8,h9,jA,jB,jC,jD,jE,jF,jG,jH,jI,jJ,jK,jL,jM,jN,jO,jP,jQ,jR,jS,jT,jU,jV,jW,jX,jY,jZ,j0,j1,j2,j3,j4,j5,j6,j7,j8,j9,kA,kB,kC,kD,kE,kF,kG,kH,kI,kJ,kK,kL,kM,kN,kO,kP,kQ,kR,kS,kT,kU,kV,kW,kX,kY,kZ,k0,k1,k2,k3,k4,k5,k6,k7,k8,k9,mA,mB,mC,mD,mE,mF,mG,mH,mI,mJ,mK,mL,mM,mN,mO,mP] (M.new (.cells #[.int .i64 64,.int .i64 0,.int .i64 72,.int .i64 72,.int .i64 0,.int .i64 0,.int .i64 0,.int .i64 0,.int .i64 0,.int .i64 0,.int .i64 256,.int .i64 256,.int .i64 0,.int .i64 0,.int .i64 257,.int .i64 1,.int .i64 (-1),.int .i64 0,.int .i64 1,.int .i64 1,.int .i64 256,.int .i64 256,.int .i64 1,.int .i64 1] 35)):=by kernel_rfl
theorem k9_6:P9 [1,1,1]=.seq (P9 [1,1,1,0]) (P9 [1,1,1,1]):=by kernel_rfl
theorem k9_7:P9 [1,1,1,0]=.seq (P9 [1,1,1,0,0]) (P9 [1,1,1,0,1]):=by kernel_rfl
theorem k9_8:P9 [1,1,1,0,0]=.region 3 (O9 [1,1,1,0,0]) false:=by kernel_rfl
theorem r9_3 {M:Mem} {call:CallM} {K:Array Value→Mem→R} :
 opsK Try.prog (fun _=>call) (O9 [1,1,1,0,0]) (O9 [1,1,1,0,0]).toList 0 #[g0,g1,g2,g3,g4,g5,g6,g7,g8,g9,gA,gB,gC,gD,gE,gF,gG,gH,gI,gJ,gK,gL,gM,gN,gO,gP,gQ,gR,gS,gT,gU,gV,gW,gX,gY,gZ,hA,hB,hC,hD,hE,hF,hG,hH,hI,hJ,hK,hL,hM,hN,hO,hP,hQ,hR,hS,hT,hU,hV,hW,hX,hY,hZ,h0,h1,h2,h3,h4,h5,h6,h7,h8,h9,jA,jB,jC,jD,jE,jF,jG,jH,jI,jJ,jK,jL,jM,jN,jO,jP,jQ,jR,jS,jT,jU,jV,jW,jX,jY,jZ,j0,j1,j2,j3,j4,j5,j6,j7,j8,j9,kA,kB,kC,kD,kE,kF,kG,kH,kI,kJ,kK,kL,kM,kN,kO,kP,kQ,kR,kS,kT,kU,kV,kW,kX,kY,kZ,k0,k1,k2,k3,k4,k5,k6,k7,k8,k9,mA,mB,mC,mD,mE,mF,mG,mH,mI,mJ,mK,mL,mM,mN,mO,mP] M K=K #[g0,g1,g2,.int .i64 0,g4,g5,g6,g7,g8,g9,gA,gB,gC,gD,gE,gF,gG,gH,gI,gJ,gK,gL,gM,gN,gO,gP,gQ,gR,gS,gT,gU,gV,gW,gX,gY,gZ,hA,hB,hC,hD,hE,hF,hG,hH,hI,hJ,hK,hL,hM,hN,hO,hP,hQ,hR,hS,hT,hU,hV,hW,hX,hY,hZ,h0,h1,h2,h3,h4,h5,h6,h7,h8,h9,jA,jB,jC,jD,jE,jF,jG,jH,jI,jJ,jK,jL,jM,jN,jO,jP,jQ,jR,jS,jT,jU,jV,jW,jX,jY,jZ,j0,j1,j2,j3,j4,j5,j6,j7,j8,j9,kA,kB,kC,kD,kE,kF,kG,kH,kI,kJ,kK,kL,kM,kN,kO,kP,kQ,kR,kS,kT,kU,kV,kW,kX,kY,kZ,k0,k1,k2,k3,k4,k5,k6,k7,k8,k9,mA,mB,mC,mD,mE,mF,mG,mH,mI,mJ,mK,mL,mM,mN,mO,mP] M:=by kernel_rfl
theorem k9_9:P9 [1,1,1,0,1]=.block 0 (P9 [1,1,1,0,1,0]):=by kernel_rfl
theorem k9_10:P9 [1,1,1,0,1,0]=.loop (P9 [1,1,1,0,1,0,0]):=by kernel_rfl
theorem k9_11:P9 [1,1,1,0,1,0,0]=.seq (P9 [1,1,1,0,1,0,0,0]) (P9 [1,1,1,0,1,0,0,1]):=by kernel_rfl
theorem k9_12:P9 [1,1,1,0,1,0,0,0]=.seq (P9 [1,1,1,0,1,0,0,0,0]) (P9 [1,1,1,0,1,0,0,0,1]):=by kernel_rfl
theorem k9_13:P9 [1,1,1,0,1,0,0,0,0]=.region 4 (O9 [1,1,1,0,1,0,0,0,0]) false:=by kernel_rfl
theorem r9_4 {Y1:Option Addr} {l1 y1:Nat} {x3:Int} {M:Mem} {call:CallM} {K:Array Value→Mem→R} :
 opsK Try.prog (fun _=>call) (O9 [1,1,1,0,1,0,0,0,0]) (O9 [1,1,1,0,1,0,0,0,0]).toList 0 #[g0,.slice Y1 l1 y1,g2,.int .i64 x3,g4,g5,g6,g7,g8,g9,gA,gB,gC,gD,gE,gF,gG,gH,gI,gJ,gK,gL,gM,gN,gO,gP,gQ,gR,gS,gT,gU,gV,gW,gX,gY,gZ,hA,hB,hC,hD,hE,hF,hG,hH,hI,hJ,hK,hL,hM,hN,hO,hP,hQ,hR,hS,hT,hU,hV,hW,hX,hY,hZ,h0,h1,h2,h3,h4,h5,h6,h7,h8,h9,jA,jB,jC,jD,jE,jF,jG,jH,jI,jJ,jK,jL,jM,jN,jO,jP,jQ,jR,jS,jT,jU,jV,jW,jX,jY,jZ,j0,j1,j2,j3,j4,j5,j6,j7,j8,j9,kA,kB,kC,kD,kE,kF,kG,kH,kI,kJ,kK,kL,kM,kN,kO,kP,kQ,kR,kS,kT,kU,kV,kW,kX,kY,kZ,k0,k1,k2,k3,k4,k5,k6,k7,k8,k9,mA,mB,mC,mD,mE,mF,mG,mH,mI,mJ,mK,mL,mM,mN,mO,mP] M K=K #[g0,.slice Y1 l1 y1,g2,.int .i64 x3,g4,g5,g6,g7,g8,g9,gA,gB,gC,gD,gE,gF,gG,gH,gI,gJ,gK,gL,gM,gN,.int .i64 x3,.slice Y1 l1 y1,.int .i64 ((l1:Int)),.bool (decide (x3<((l1:Int)))),gS,gT,gU,gV,gW,gX,gY,gZ,hA,hB,hC,hD,hE,hF,hG,hH,hI,hJ,hK,hL,hM,hN,hO,hP,hQ,hR,hS,hT,hU,hV,hW,hX,hY,hZ,h0,h1,h2,h3,h4,h5,h6,h7,h8,h9,jA,jB,jC,jD,jE,jF,jG,jH,jI,jJ,jK,jL,jM,jN,jO,jP,jQ,jR,jS,jT,jU,jV,jW,jX,jY,jZ,j0,j1,j2,j3,j4,j5,j6,j7,j8,j9,kA,kB,kC,kD,kE,kF,kG,kH,kI,kJ,kK,kL,kM,kN,kO,kP,kQ,kR,kS,kT,kU,kV,kW,kX,kY,kZ,k0,k1,k2,k3,k4,k5,k6,k7,k8,k9,mA,mB,mC,mD,mE,mF,mG,mH,mI,mJ,mK,mL,mM,mN,mO,mP] M:=by kernel_rfl
theorem c9_14:P9 [1,1,1,0,1,0,0,0,1]=.cond (.tmp 27) (P9 [1,1,1,0,1,0,0,0,1,0]) (P9 [1,1,1,0,1,0,0,0,1,1]):=by kernel_rfl
theorem k9_15:P9 [1,1,1,0,1,0,0,0,1,0]=.skip:=by kernel_rfl
theorem k9_16:P9 [1,1,1,0,1,0,0,1]=.seq (P9 [1,1,1,0,1,0,0,1,0]) (P9 [1,1,1,0,1,0,0,1,1]):=by kernel_rfl
theorem k9_17:P9 [1,1,1,0,1,0,0,1,0]=.block 1 (P9 [1,1,1,0,1,0,0,1,0,0]):=by kernel_rfl
theorem k9_18:P9 [1,1,1,0,1,0,0,1,0,0]=.seq (P9 [1,1,1,0,1,0,0,1,0,0,0]) (P9 [1,1,1,0,1,0,0,1,0,0,1]):=by kernel_rfl
theorem k9_19:P9 [1,1,1,0,1,0,0,1,0,0,0]=.region 6 (O9 [1,1,1,0,1,0,0,1,0,0,0]) false:=by kernel_rfl
theorem r9_6 {M:Mem} {call:CallM} {K:Array Value→Mem→R} :
 opsK Try.prog (fun _=>call) (O9 [1,1,1,0,1,0,0,1,0,0,0]) (O9 [1,1,1,0,1,0,0,1,0,0,0]).toList 0 #[g0,g1,g2,g3,g4,g5,g6,g7,g8,g9,gA,gB,gC,gD,gE,gF,gG,gH,gI,gJ,gK,gL,gM,gN,gO,gP,gQ,gR,gS,gT,gU,gV,gW,gX,gY,gZ,hA,hB,hC,hD,hE,hF,hG,hH,hI,hJ,hK,hL,hM,hN,hO,hP,hQ,hR,hS,hT,hU,hV,hW,hX,hY,hZ,h0,h1,h2,h3,h4,h5,h6,h7,h8,h9,jA,jB,jC,jD,jE,jF,jG,jH,jI,jJ,jK,jL,jM,jN,jO,jP,jQ,jR,jS,jT,jU,jV,jW,jX,jY,jZ,j0,j1,j2,j3,j4,j5,j6,j7,j8,j9,kA,kB,kC,kD,kE,kF,kG,kH,kI,kJ,kK,kL,kM,kN,kO,kP,kQ,kR,kS,kT,kU,kV,kW,kX,kY,kZ,k0,k1,k2,k3,k4,k5,k6,k7,k8,k9,mA,mB,mC,mD,mE,mF,mG,mH,mI,mJ,mK,mL,mM,mN,mO,mP] M K=K #[g0,g1,g2,g3,.int .i64 (-1),g5,g6,g7,g8,g9,gA,gB,gC,gD,gE,gF,gG,gH,gI,gJ,gK,gL,gM,gN,gO,gP,gQ,gR,gS,gT,gU,gV,gW,gX,gY,gZ,hA,hB,hC,hD,hE,hF,hG,hH,hI,hJ,hK,hL,hM,hN,hO,hP,hQ,hR,hS,hT,hU,hV,hW,hX,hY,hZ,h0,h1,h2,h3,h4,h5,h6,h7,h8,h9,jA,jB,jC,jD,jE,jF,jG,jH,jI,jJ,jK,jL,jM,jN,jO,jP,jQ,jR,jS,jT,jU,jV,jW,jX,jY,jZ,j0,j1,j2,j3,j4,j5,j6,j7,j8,j9,kA,kB,kC,kD,kE,kF,kG,kH,kI,kJ,kK,kL,kM,kN,kO,kP,kQ,kR,kS,kT,kU,kV,kW,kX,kY,kZ,k0,k1,k2,k3,k4,k5,k6,k7,k8,k9,mA,mB,mC,mD,mE,mF,mG,mH,mI,mJ,mK,mL,mM,mN,mO,mP] M:=by kernel_rfl
theorem k9_20:P9 [1,1,1,0,1,0,0,1,0,0,1]=.block 2 (P9 [1,1,1,0,1,0,0,1,0,0,1,0]):=by kernel_rfl
theorem k9_21:P9 [1,1,1,0,1,0,0,1,0,0,1,0]=.loop (P9 [1,1,1,0,1,0,0,1,0,0,1,0,0]):=by kernel_rfl
theorem k9_22:P9 [1,1,1,0,1,0,0,0,1,1]=.exit 0:=by kernel_rfl
theorem k9_23:P9 [1,1,1,1]=.seq (P9 [1,1,1,1,0]) (P9 [1,1,1,1,1]):=by kernel_rfl
theorem k9_24:P9 [1,1,1,1,0]=.region 11 (O9 [1,1,1,1,0]) false:=by kernel_rfl
theorem r9_11 {M:Mem} {call:CallM} {K:Array Value→Mem→R} :
 opsK Try.prog (fun _=>call) (O9 [1,1,1,1,0]) (O9 [1,1,1,1,0]).toList 0 #[g0,g1,g2,g3,g4,g5,g6,g7,g8,g9,gA,gB,gC,gD,gE,gF,gG,gH,gI,gJ,gK,gL,gM,gN,gO,gP,gQ,gR,gS,gT,gU,gV,gW,gX,gY,gZ,hA,hB,hC,hD,hE,hF,hG,hH,hI,hJ,hK,hL,hM,hN,hO,hP,hQ,hR,hS,hT,hU,hV,hW,hX,hY,hZ,h0,h1,h2,h3,h4,h5,h6,h7,h8,h9,jA,jB,jC,jD,jE,jF,jG,jH,jI,jJ,jK,jL,jM,jN,jO,jP,jQ,jR,jS,jT,jU,jV,jW,jX,jY,jZ,j0,j1,j2,j3,j4,j5,j6,j7,j8,j9,kA,kB,kC,kD,kE,kF,kG,kH,kI,kJ,kK,kL,kM,kN,kO,kP,kQ,kR,kS,kT,kU,kV,kW,kX,kY,kZ,k0,k1,k2,k3,k4,k5,k6,k7,k8,k9,mA,mB,mC,mD,mE,mF,mG,mH,mI,mJ,mK,mL,mM,mN,mO,mP] M K=(makeP Try.prog 22 (.int .i64 257) (.int .i64 257) M).bind fun r_1=>(asS r_1.1).bind fun s_2=>K #[g0,g1,g2,g3,g4,.slice s_2.1 (s_2.2.1) (s_2.2.2),g6,g7,g8,g9,gA,gB,gC,gD,gE,gF,gG,gH,gI,gJ,gK,gL,gM,gN,gO,gP,gQ,gR,gS,gT,gU,gV,gW,gX,gY,gZ,hA,hB,hC,hD,hE,hF,hG,hH,hI,hJ,hK,hL,hM,hN,hO,hP,hQ,hR,hS,hT,hU,hV,hW,hX,hY,hZ,h0,h1,h2,h3,h4,h5,h6,h7,h8,h9,jA,jB,jC,.slice s_2.1 (s_2.2.1) (s_2.2.2),jE,jF,jG,jH,jI,jJ,jK,jL,jM,jN,jO,jP,jQ,jR,jS,jT,jU,jV,jW,jX,jY,jZ,j0,j1,j2,j3,j4,j5,j6,j7,j8,j9,kA,kB,kC,kD,kE,kF,kG,kH,kI,kJ,kK,kL,kM,kN,kO,kP,kQ,kR,kS,kT,kU,kV,kW,kX,kY,kZ,k0,k1,k2,k3,k4,k5,k6,k7,k8,k9,mA,mB,mC,mD,mE,mF,mG,mH,mI,mJ,mK,mL,mM,mN,mO,mP] r_1.2:=by kernel_rfl
theorem k9_25:P9 [1,1,1,1,1]=.seq (P9 [1,1,1,1,1,0]) (P9 [1,1,1,1,1,1]):=by kernel_rfl
theorem k9_26:P9 [1,1,1,1,1,0]=.region 12 (O9 [1,1,1,1,1,0]) false:=by kernel_rfl
theorem r9_12 {Y5:Option Addr} {l5 y5:Nat} {M:Mem} {call:CallM} {K:Array Value→Mem→R} :
 opsK Try.prog (fun _=>call) (O9 [1,1,1,1,1,0]) (O9 [1,1,1,1,1,0]).toList 0 #[g0,g1,g2,g3,g4,.slice Y5 l5 y5,g6,g7,g8,g9,gA,gB,gC,gD,gE,gF,gG,gH,gI,gJ,gK,gL,gM,gN,gO,gP,gQ,gR,gS,gT,gU,gV,gW,gX,gY,gZ,hA,hB,hC,hD,hE,hF,hG,hH,hI,hJ,hK,hL,hM,hN,hO,hP,hQ,hR,hS,hT,hU,hV,hW,hX,hY,hZ,h0,h1,h2,h3,h4,h5,h6,h7,h8,h9,jA,jB,jC,jD,jE,jF,jG,jH,jI,jJ,jK,jL,jM,jN,jO,jP,jQ,jR,jS,jT,jU,jV,jW,jX,jY,jZ,j0,j1,j2,j3,j4,j5,j6,j7,j8,j9,kA,kB,kC,kD,kE,kF,kG,kH,kI,kJ,kK,kL,kM,kN,kO,kP,kQ,kR,kS,kT,kU,kV,kW,kX,kY,kZ,k0,k1,k2,k3,k4,k5,k6,k7,k8,k9,mA,mB,mC,mD,mE,mF,mG,mH,mI,mJ,mK,mL,mM,mN,mO,mP] M K=(sliceP Try.prog 22 (.slice Y5 l5 y5) none (some (.int .i64 256)) none).bind fun v_1=>(asS v_1).bind fun s_2=>K #[g0,g1,g2,g3,g4,.slice Y5 l5 y5,.slice (some ⟨2*(((((((M.new (.cells #[.int .i64 2,.int .i64 0,.int .i64 1,.int .i64 1] 3)).new (.cells #[.int .i64 2,.int .i64 1] 3)).new (.cells #[.int .i64 1,.int .i64 1] 3)).new (.cells #[.int .i64 (-1)] 3)).new (.cells #[.int .i64 65536] 3)).new (.cells #[.int .i64 65536,.int .i64 1] 3)).new (.cells #[.int .i64 4611686018427387904,.int .i64 4611686018427387904,.int .i64 4611686018427387904] 3)).nb.size,0,none⟩) 10 10,g7,g8,g9,gA,gB,gC,gD,gE,gF,gG,gH,gI,gJ,gK,gL,gM,gN,gO,gP,gQ,gR,gS,gT,gU,gV,gW,gX,gY,gZ,hA,hB,hC,hD,hE,hF,hG,hH,hI,hJ,hK,hL,hM,hN,hO,hP,hQ,hR,hS,hT,hU,hV,hW,hX,hY,hZ,h0,h1,h2,h3,h4,h5,h6,h7,h8,h9,jA,jB,jC,jD,.slice (some ⟨2*M.nb.size,0,none⟩) 4 4,.slice (some ⟨2*(M.new (.cells #[.int .i64 2,.int .i64 0,.int .i64 1,.int .i64 1] 3)).nb.size,0,none⟩) 2 2,.slice (some ⟨2*((M.new (.cells #[.int .i64 2,.int .i64 0,.int .i64 1,.int .i64 1] 3)).new (.cells #[.int .i64 2,.int .i64 1] 3)).nb.size,0,none⟩) 2 2,.slice (some ⟨2*(((M.new (.cells #[.int .i64 2,.int .i64 0,.int .i64 1,.int .i64 1] 3)).new (.cells #[.int .i64 2,.int .i64 1] 3)).new (.cells #[.int .i64 1,.int .i64 1] 3)).nb.size,0,none⟩) 1 1,.slice Y5 l5 y5,.slice Y5 l5 y5,.slice s_2.1 (s_2.2.1) (s_2.2.2),.slice (some ⟨2*((((M.new (.cells #[.int .i64 2,.int .i64 0,.int .i64 1,.int .i64 1] 3)).new (.cells #[.int .i64 2,.int .i64 1] 3)).new (.cells #[.int .i64 1,.int .i64 1] 3)).new (.cells #[.int .i64 (-1)] 3)).nb.size,0,none⟩) 1 1,.slice (some ⟨2*(((((M.new (.cells #[.int .i64 2,.int .i64 0,.int .i64 1,.int .i64 1] 3)).new (.cells #[.int .i64 2,.int .i64 1] 3)).new (.cells #[.int .i64 1,.int .i64 1] 3)).new (.cells #[.int .i64 (-1)] 3)).new (.cells #[.int .i64 65536] 3)).nb.size,0,none⟩) 2 2,.slice (some ⟨2*((((((M.new (.cells #[.int .i64 2,.int .i64 0,.int .i64 1,.int .i64 1] 3)).new (.cells #[.int .i64 2,.int .i64 1] 3)).new (.cells #[.int .i64 1,.int .i64 1] 3)).new (.cells #[.int .i64 (-1)] 3)).new (.cells #[.int .i64 65536] 3)).new (.cells #[.int .i64 65536,.int .i64 1] 3)).nb.size,0,none⟩) 3 3,.slice (some ⟨2*(((((((M.new (.cells #[.int .i64 2,.int .i64 0,.int .i64 1,.int .i64 1] 3)).new (.cells #[.int .i64 2,.int .i64 1] 3)).new (.cells #[.int .i64 1,.int .i64 1] 3)).new (.cells #[.int .i64 (-1)] 3)).new (.cells #[.int .i64 65536] 3)).new (.cells #[.int .i64 65536,.int .i64 1] 3)).new (.cells #[.int .i64 4611686018427387904,.int .i64 4611686018427387904,.int .i64 4611686018427387904] 3)).nb.size,0,none⟩) 10 10,jP,jQ,jR,jS,jT,jU,jV,jW,jX,jY,jZ,j0,j1,j2,j3,j4,j5,j6,j7,j8,j9,kA,kB,kC,kD,kE,kF,kG,kH,kI,kJ,kK,kL,kM,kN,kO,kP,kQ,kR,kS,kT,kU,kV,kW,kX,kY,kZ,k0,k1,k2,k3,k4,k5,k6,k7,k8,k9,mA,mB,mC,mD,mE,mF,mG,mH,mI,mJ,mK,mL,mM,mN,mO,mP] ((((((((M.new (.cells #[.int .i64 2,.int .i64 0,.int .i64 1,.int .i64 1] 3)).new (.cells #[.int .i64 2,.int .i64 1] 3)).new (.cells #[.int .i64 1,.int .i64 1] 3)).new (.cells #[.int .i64 (-1)] 3)).new (.cells #[.int .i64 65536] 3)).new (.cells #[.int .i64 65536,.int .i64 1] 3)).new (.cells #[.int .i64 4611686018427387904,.int .i64 4611686018427387904,.int .i64 4611686018427387904] 3)).new (.cells #[.slice (some ⟨2*M.nb.size,0,none⟩) 4 4,.slice (some ⟨2*(M.new (.cells #[.int .i64 2,.int .i64 0,.int .i64 1,.int .i64 1] 3)).nb.size,0,none⟩) 2 2,.slice (some ⟨2*((M.new (.cells #[.int .i64 2,.int .i64 0,.int .i64 1,.int .i64 1] 3)).new (.cells #[.int .i64 2,.int .i64 1] 3)).nb.size,0,none⟩) 2 2,.slice (some ⟨2*(((M.new (.cells #[.int .i64 2,.int .i64 0,.int .i64 1,.int .i64 1] 3)).new (.cells #[.int .i64 2,.int .i64 1] 3)).new (.cells #[.int .i64 1,.int .i64 1] 3)).nb.size,0,none⟩) 1 1,.slice Y5 l5 y5,.slice s_2.1 (s_2.2.1) (s_2.2.2),.slice (some ⟨2*((((M.new (.cells #[.int .i64 2,.int .i64 0,.int .i64 1,.int .i64 1] 3)).new (.cells #[.int .i64 2,.int .i64 1] 3)).new (.cells #[.int .i64 1,.int .i64 1] 3)).new (.cells #[.int .i64 (-1)] 3)).nb.size,0,none⟩) 1 1,.slice (some ⟨2*(((((M.new (.cells #[.int .i64 2,.int .i64 0,.int .i64 1,.int .i64 1] 3)).new (.cells #[.int .i64 2,.int .i64 1] 3)).new (.cells #[.int .i64 1,.int .i64 1] 3)).new (.cells #[.int .i64 (-1)] 3)).new (.cells #[.int .i64 65536] 3)).nb.size,0,none⟩) 2 2,.slice (some ⟨2*((((((M.new (.cells #[.int .i64 2,.int .i64 0,.int .i64 1,.int .i64 1] 3)).new (.cells #[.int .i64 2,.int .i64 1] 3)).new (.cells #[.int .i64 1,.int .i64 1] 3)).new (.cells #[.int .i64 (-1)] 3)).new (.cells #[.int .i64 65536] 3)).new (.cells #[.int .i64 65536,.int .i64 1] 3)).nb.size,0,none⟩) 3 3,.slice none 0 0] 22)):=by kernel_rfl
theorem k9_27:P9 [1,1,1,1,1,1]=.seq (P9 [1,1,1,1,1,1,0]) (P9 [1,1,1,1,1,1,1]):=by kernel_rfl
theorem k9_28:P9 [1,1,1,1,1,1,0]=.seq (P9 [1,1,1,1,1,1,0,0]) (P9 [1,1,1,1,1,1,0,1]):=by kernel_rfl
theorem k9_29:P9 [1,1,1,1,1,1,0,0]=.region 13 (O9 [1,1,1,1,1,1,0,0]) false:=by kernel_rfl
theorem r9_13 {M:Mem} {call:CallM} {K:Array Value→Mem→R} :
 opsK Try.prog (fun _=>call) (O9 [1,1,1,1,1,1,0,0]) (O9 [1,1,1,1,1,1,0,0]).toList 0 #[g0,g1,g2,g3,g4,g5,g6,g7,g8,g9,gA,gB,gC,gD,gE,gF,gG,gH,gI,gJ,gK,gL,gM,gN,gO,gP,gQ,gR,gS,gT,gU,gV,gW,gX,gY,gZ,hA,hB,hC,hD,hE,hF,hG,hH,hI,hJ,hK,hL,hM,hN,hO,hP,hQ,hR,hS,hT,hU,hV,hW,hX,hY,hZ,h0,h1,h2,h3,h4,h5,h6,h7,h8,h9,jA,jB,jC,jD,jE,jF,jG,jH,jI,jJ,jK,jL,jM,jN,jO,jP,jQ,jR,jS,jT,jU,jV,jW,jX,jY,jZ,j0,j1,j2,j3,j4,j5,j6,j7,j8,j9,kA,kB,kC,kD,kE,kF,kG,kH,kI,kJ,kK,kL,kM,kN,kO,kP,kQ,kR,kS,kT,kU,kV,kW,kX,kY,kZ,k0,k1,k2,k3,k4,k5,k6,k7,k8,k9,mA,mB,mC,mD,mE,mF,mG,mH,mI,mJ,mK,mL,mM,mN,mO,mP] M K=K #[g0,g1,g2,g3,g4,g5,g6,.int .i64 0,g8,g9,gA,gB,gC,gD,gE,gF,gG,gH,gI,gJ,gK,gL,gM,gN,gO,gP,gQ,gR,gS,gT,gU,gV,gW,gX,gY,gZ,hA,hB,hC,hD,hE,hF,hG,hH,hI,hJ,hK,hL,hM,hN,hO,hP,hQ,hR,hS,hT,hU,hV,hW,hX,hY,hZ,h0,h1,h2,h3,h4,h5,h6,h7,h8,h9,jA,jB,jC,jD,jE,jF,jG,jH,jI,jJ,jK,jL,jM,jN,jO,jP,jQ,jR,jS,jT,jU,jV,jW,jX,jY,jZ,j0,j1,j2,j3,j4,j5,j6,j7,j8,j9,kA,kB,kC,kD,kE,kF,kG,kH,kI,kJ,kK,kL,kM,kN,kO,kP,kQ,kR,kS,kT,kU,kV,kW,kX,kY,kZ,k0,k1,k2,k3,k4,k5,k6,k7,k8,k9,mA,mB,mC,mD,mE,mF,mG,mH,mI,mJ,mK,mL,mM,mN,mO,mP] M:=by kernel_rfl
theorem k9_30:P9 [1,1,1,1,1,1,0,1]=.block 4 (P9 [1,1,1,1,1,1,0,1,0]):=by kernel_rfl
theorem k9_31:P9 [1,1,1,1,1,1,0,1,0]=.loop (P9 [1,1,1,1,1,1,0,1,0,0]):=by kernel_rfl
theorem k9_32:P9 [1,1,1,0,1,0,0,1,0,0,1,0,0]=.seq (P9 [1,1,1,0,1,0,0,1,0,0,1,0,0,0]) (P9 [1,1,1,0,1,0,0,1,0,0,1,0,0,1]):=by kernel_rfl
theorem k9_33:P9 [1,1,1,0,1,0,0,1,0,0,1,0,0,0]=.seq (P9 [1,1,1,0,1,0,0,1,0,0,1,0,0,0,0]) (P9 [1,1,1,0,1,0,0,1,0,0,1,0,0,0,1]):=by kernel_rfl
theorem k9_34:P9 [1,1,1,0,1,0,0,1,0,0,1,0,0,0,0]=.region 7 (O9 [1,1,1,0,1,0,0,1,0,0,1,0,0,0,0]) false:=by kernel_rfl
theorem r9_7 {x4:Int} {M:Mem} {call:CallM} {K:Array Value→Mem→R} :
 opsK Try.prog (fun _=>call) (O9 [1,1,1,0,1,0,0,1,0,0,1,0,0,0,0]) (O9 [1,1,1,0,1,0,0,1,0,0,1,0,0,0,0]).toList 0 #[g0,g1,g2,g3,.int .i64 x4,g5,g6,g7,g8,g9,gA,gB,gC,gD,gE,gF,gG,gH,gI,gJ,gK,gL,gM,gN,gO,gP,gQ,gR,gS,gT,gU,gV,gW,gX,gY,gZ,hA,hB,hC,hD,hE,hF,hG,hH,hI,hJ,hK,hL,hM,hN,hO,hP,hQ,hR,hS,hT,hU,hV,hW,hX,hY,hZ,h0,h1,h2,h3,h4,h5,h6,h7,h8,h9,jA,jB,jC,jD,jE,jF,jG,jH,jI,jJ,jK,jL,jM,jN,jO,jP,jQ,jR,jS,jT,jU,jV,jW,jX,jY,jZ,j0,j1,j2,j3,j4,j5,j6,j7,j8,j9,kA,kB,kC,kD,kE,kF,kG,kH,kI,kJ,kK,kL,kM,kN,kO,kP,kQ,kR,kS,kT,kU,kV,kW,kX,kY,kZ,k0,k1,k2,k3,k4,k5,k6,k7,k8,k9,mA,mB,mC,mD,mE,mF,mG,mH,mI,mJ,mK,mL,mM,mN,mO,mP] M K=K #[g0,g1,g2,g3,.int .i64 x4,g5,g6,g7,g8,g9,gA,gB,gC,gD,gE,gF,gG,gH,gI,gJ,gK,gL,gM,gN,gO,gP,gQ,gR,gS,gT,.int .i64 x4,.bool (decide (x4<4)),gW,gX,gY,gZ,hA,hB,hC,hD,hE,hF,hG,hH,hI,hJ,hK,hL,hM,hN,hO,hP,hQ,hR,hS,hT,hU,hV,hW,hX,hY,hZ,h0,h1,h2,h3,h4,h5,h6,h7,h8,h9,jA,jB,jC,jD,jE,jF,jG,jH,jI,jJ,jK,jL,jM,jN,jO,jP,jQ,jR,jS,jT,jU,jV,jW,jX,jY,jZ,j0,j1,j2,j3,j4,j5,j6,j7,j8,j9,kA,kB,kC,kD,kE,kF,kG,kH,kI,kJ,kK,kL,kM,kN,kO,kP,kQ,kR,kS,kT,kU,kV,kW,kX,kY,kZ,k0,k1,k2,k3,k4,k5,k6,k7,k8,k9,mA,mB,mC,mD,mE,mF,mG,mH,mI,mJ,mK,mL,mM,mN,mO,mP] M:=by kernel_rfl
theorem c9_35:P9 [1,1,1,0,1,0,0,1,0,0,1,0,0,0,1]=.cond (.tmp 31) (P9 [1,1,1,0,1,0,0,1,0,0,1,0,0,0,1,0]) (P9 [1,1,1,0,1,0,0,1,0,0,1,0,0,0,1,1]):=by kernel_rfl
theorem k9_36:P9 [1,1,1,0,1,0,0,1,0,0,1,0,0,0,1,0]=.skip:=by kernel_rfl
theorem k9_37:P9 [1,1,1,0,1,0,0,1,0,0,1,0,0,1]=.seq (P9 [1,1,1,0,1,0,0,1,0,0,1,0,0,1,0]) (P9 [1,1,1,0,1,0,0,1,0,0,1,0,0,1,1]):=by kernel_rfl
theorem k9_38:P9 [1,1,1,0,1,0,0,1,0,0,1,0,0,1,0]=.block 3 (P9 [1,1,1,0,1,0,0,1,0,0,1,0,0,1,0,0]):=by kernel_rfl
theorem k9_39:P9 [1,1,1,0,1,0,0,1,0,0,1,0,0,1,0,0]=.seq (P9 [1,1,1,0,1,0,0,1,0,0,1,0,0,1,0,0,0]) (P9 [1,1,1,0,1,0,0,1,0,0,1,0,0,1,0,0,1]):=by kernel_rfl
theorem k9_40:P9 [1,1,1,0,1,0,0,1,0,0,1,0,0,1,0,0,0]=.region 9 (O9 [1,1,1,0,1,0,0,1,0,0,1,0,0,1,0,0,0]) true∧drawOk (O9 [1,1,1,0,1,0,0,1,0,0,1,0,0,1,0,0,0])=true:=⟨by kernel_rfl,by kernel_rfl⟩
theorem r9_9 {Y1:Option Addr} {l1 y1:Nat} {Y2:Option Addr} {l2 y2:Nat} {x3 x4:Int} {M:Mem} {call:CallM} {K:Array Value→Mem→R} :
    opsI Try.prog (callAt call (O9 [1,1,1,0,1,0,0,1,0,0,1,0,0,1,0,0,0])) (O9 [1,1,1,0,1,0,0,1,0,0,1,0,0,1,0,0,0]) (ordOf (O9 [1,1,1,0,1,0,0,1,0,0,1,0,0,1,0,0,0])) [] #[g0,.slice Y1 l1 y1,.slice Y2 l2 y2,.int .i64 x3,.int .i64 x4,g5,g6,g7,g8,g9,gA,gB,gC,gD,gE,gF,gG,gH,gI,gJ,gK,gL,gM,gN,gO,gP,gQ,gR,gS,gT,gU,gV,gW,gX,gY,gZ,hA,hB,hC,hD,hE,hF,hG,hH,hI,hJ,hK,hL,hM,hN,hO,hP,hQ,hR,hS,hT,hU,hV,hW,hX,hY,hZ,h0,h1,h2,h3,h4,h5,h6,h7,h8,h9,jA,jB,jC,jD,jE,jF,jG,jH,jI,jJ,jK,jL,jM,jN,jO,jP,jQ,jR,jS,jT,jU,jV,jW,jX,jY,jZ,j0,j1,j2,j3,j4,j5,j6,j7,j8,j9,kA,kB,kC,kD,kE,kF,kG,kH,kI,kJ,kK,kL,kM,kN,kO,kP,kQ,kR,kS,kT,kU,kV,kW,kX,kY,kZ,k0,k1,k2,k3,k4,k5,k6,k7,k8,k9,mA,mB,mC,mD,mE,mF,mG,mH,mI,mJ,mK,mL,mM,mN,mO,mP] M K=withK (fun w36 w37 w42 w43 w44 w45 w46 w47 w48 w49 w50 w51 w52 w53 w54 w55 w56 w57 w58 w59 w60 w61 w62 w63 w64 w65 w66 w67 w68 w69 w70 w71 w72 w73 w74 M=>K #[g0,.slice Y1 l1 y1,.slice Y2 l2 y2,.int .i64 x3,.int .i64 x4,g5,g6,g7,g8,g9,gA,gB,gC,gD,gE,gF,gG,gH,gI,gJ,gK,gL,gM,gN,gO,gP,gQ,gR,gS,gT,gU,gV,gW,gX,.slice Y1 l1 y1,.int .i64 x3,w36,w37,.int .i64 x4,.agg #[.int .i64 x4,.int .i64 0],.slice Y2 l2 y2,.int .i64 x3,w42,w43,w44,w45,w46,w47,w48,w49,w50,w51,w52,w53,w54,w55,w56,w57,w58,w59,w60,w61,w62,w63,w64,w65,w66,w67,w68,w69,w70,w71,w72,w73,w74,jD,jE,jF,jG,jH,jI,jJ,jK,jL,jM,jN,jO,jP,jQ,jR,jS,jT,jU,jV,jW,jX,jY,jZ,j0,j1,j2,j3,j4,j5,j6,j7,j8,j9,kA,kB,kC,kD,kE,kF,kG,kH,kI,kJ,kK,kL,kM,kN,kO,kP,kQ,kR,kS,kT,kU,kV,kW,kX,kY,kZ,k0,k1,k2,k3,k4,k5,k6,k7,k8,k9,mA,mB,mC,mD,mE,mF,mG,mH,mI,mJ,mK,mL,mM,mN,mO,mP] M) fun k=>(idxA Y1 l1 2 x3).bind fun a_1=>(M.intAt .i64 a_1.block a_1.off).bind fun x_2=>(M.intAt .i64 a_1.block (a_1.off+1)).bind fun x_3=>(idxA Y2 l2 4 x3).bind fun a_4=>(M.intAt .i64 a_4.block a_4.off).bind fun x_5=>(M.intAt .i64 a_4.block (a_4.off+1)).bind fun x_6=>(M.intAt .i64 a_4.block (a_4.off+2)).bind fun x_7=>(M.intAt .i64 a_4.block (a_4.off+3)).bind fun x_8=>(call 5 #[.agg #[.int .i64 x_2,.int .i64 x_3],.agg #[.int .i64 x4,.int .i64 0],.agg #[.int .i64 x_5,.int .i64 x_6,.int .i64 x_7,.int .i64 x_8]] M).bind fun r_9=>(asB r_9.1).bind fun b_10=>cond (!b_10) (k (.pointer (some a_1)) (.agg #[.int .i64 x_2,.int .i64 x_3]) (.pointer (some a_4)) (.agg #[.int .i64 x_5,.int .i64 x_6,.int .i64 x_7,.int .i64 x_8]) (.bool b_10) (.bool (!b_10)) (.bool true) undef undef undef undef undef undef undef undef undef undef undef undef (.bool true) (.bool true) undef undef undef undef undef undef undef undef undef undef undef undef undef (.bool true) r_9.2) ((idxA Y1 l1 2 x3).bind fun a_11=>(r_9.2.intAt .i64 a_11.block a_11.off).bind fun x_12=>(r_9.2.intAt .i64 a_11.block (a_11.off+1)).bind fun x_13=>(idxA Y2 l2 4 x3).bind fun a_14=>(r_9.2.intAt .i64 a_14.block a_14.off).bind fun x_15=>(r_9.2.intAt .i64 a_14.block (a_14.off+1)).bind fun x_16=>(r_9.2.intAt .i64 a_14.block (a_14.off+2)).bind fun x_17=>(r_9.2.intAt .i64 a_14.block (a_14.off+3)).bind fun x_18=>(call 5 #[.agg #[.int .i64 x_12,.int .i64 x_13],.agg #[.int .i64 0,.int .i64 x4],.agg #[.int .i64 x_15,.int .i64 x_16,.int .i64 x_17,.int .i64 x_18]] r_9.2).bind fun r_19=>(asB r_19.1).bind fun b_20=>cond (!b_20) (k (.pointer (some a_1)) (.agg #[.int .i64 x_2,.int .i64 x_3]) (.pointer (some a_4)) (.agg #[.int .i64 x_5,.int .i64 x_6,.int .i64 x_7,.int .i64 x_8]) (.bool b_10) (.bool (!b_10)) (.bool false) (.slice Y1 l1 y1) (.int .i64 x3) (.pointer (some a_11)) (.agg #[.int .i64 x_12,.int .i64 x_13]) (.int .i64 x4) (.agg #[.int .i64 0,.int .i64 x4]) (.slice Y2 l2 y2) (.int .i64 x3) (.pointer (some a_14)) (.agg #[.int .i64 x_15,.int .i64 x_16,.int .i64 x_17,.int .i64 x_18]) (.bool b_20) (.bool (!b_20)) (.bool (!b_20)) (.bool true) undef undef undef undef undef undef undef undef undef undef undef undef undef (.bool true) r_19.2) ((idxA Y1 l1 2 x3).bind fun a_21=>(r_19.2.intAt .i64 a_21.block a_21.off).bind fun x_22=>(r_19.2.intAt .i64 a_21.block (a_21.off+1)).bind fun x_23=>(idxA Y2 l2 4 x3).bind fun a_24=>(r_19.2.intAt .i64 a_24.block a_24.off).bind fun x_25=>(r_19.2.intAt .i64 a_24.block (a_24.off+1)).bind fun x_26=>(r_19.2.intAt .i64 a_24.block (a_24.off+2)).bind fun x_27=>(r_19.2.intAt .i64 a_24.block (a_24.off+3)).bind fun x_28=>(call 5 #[.agg #[.int .i64 x_22,.int .i64 x_23],.agg #[.int .i64 x4,.int .i64 x4],.agg #[.int .i64 x_25,.int .i64 x_26,.int .i64 x_27,.int .i64 x_28]] r_19.2).bind fun r_29=>(asB r_29.1).bind fun b_30=>k (.pointer (some a_1)) (.agg #[.int .i64 x_2,.int .i64 x_3]) (.pointer (some a_4)) (.agg #[.int .i64 x_5,.int .i64 x_6,.int .i64 x_7,.int .i64 x_8]) (.bool b_10) (.bool (!b_10)) (.bool false) (.slice Y1 l1 y1) (.int .i64 x3) (.pointer (some a_11)) (.agg #[.int .i64 x_12,.int .i64 x_13]) (.int .i64 x4) (.agg #[.int .i64 0,.int .i64 x4]) (.slice Y2 l2 y2) (.int .i64 x3) (.pointer (some a_14)) (.agg #[.int .i64 x_15,.int .i64 x_16,.int .i64 x_17,.int .i64 x_18]) (.bool b_20) (.bool (!b_20)) (.bool (!b_20)) (.bool false) (.slice Y1 l1 y1) (.int .i64 x3) (.pointer (some a_21)) (.agg #[.int .i64 x_22,.int .i64 x_23]) (.int .i64 x4) (.int .i64 x4) (.agg #[.int .i64 x4,.int .i64 x4]) (.slice Y2 l2 y2) (.int .i64 x3) (.pointer (some a_24)) (.agg #[.int .i64 x_25,.int .i64 x_26,.int .i64 x_27,.int .i64 x_28]) (.bool b_30) (.bool (!b_30)) (.bool (!b_30)) r_29.2)):=by kernel_rfl
theorem k9_41:P9 [1,1,1,0,1,0,0,1,0,0,1,0,0,0,1,1]=.exit 2:=by kernel_rfl
theorem k9_42:P9 [1,1,1,0,1,0,0,1,1]=.region 5 (O9 [1,1,1,0,1,0,0,1,1]) false:=by kernel_rfl
theorem r9_5 {x3:Int} {M:Mem} {call:CallM} {K:Array Value→Mem→R} :
 opsK Try.prog (fun _=>call) (O9 [1,1,1,0,1,0,0,1,1]) (O9 [1,1,1,0,1,0,0,1,1]).toList 0 #[g0,g1,g2,.int .i64 x3,g4,g5,g6,g7,g8,g9,gA,gB,gC,gD,gE,gF,gG,gH,gI,gJ,gK,gL,gM,gN,gO,gP,gQ,gR,gS,gT,gU,gV,gW,gX,gY,gZ,hA,hB,hC,hD,hE,hF,hG,hH,hI,hJ,hK,hL,hM,hN,hO,hP,hQ,hR,hS,hT,hU,hV,hW,hX,hY,hZ,h0,h1,h2,h3,h4,h5,h6,h7,h8,h9,jA,jB,jC,jD,jE,jF,jG,jH,jI,jJ,jK,jL,jM,jN,jO,jP,jQ,jR,jS,jT,jU,jV,jW,jX,jY,jZ,j0,j1,j2,j3,j4,j5,j6,j7,j8,j9,kA,kB,kC,kD,kE,kF,kG,kH,kI,kJ,kK,kL,kM,kN,kO,kP,kQ,kR,kS,kT,kU,kV,kW,kX,kY,kZ,k0,k1,k2,k3,k4,k5,k6,k7,k8,k9,mA,mB,mC,mD,mE,mF,mG,mH,mI,mJ,mK,mL,mM,mN,mO,mP] M K=K #[g0,g1,g2,.int .i64 (IntKind.i64.wrap (x3+1)),g4,g5,g6,g7,g8,g9,gA,gB,gC,gD,gE,gF,gG,gH,gI,gJ,gK,gL,gM,gN,gO,gP,gQ,gR,.int .i64 x3,.int .i64 (IntKind.i64.wrap (x3+1)),gU,gV,gW,gX,gY,gZ,hA,hB,hC,hD,hE,hF,hG,hH,hI,hJ,hK,hL,hM,hN,hO,hP,hQ,hR,hS,hT,hU,hV,hW,hX,hY,hZ,h0,h1,h2,h3,h4,h5,h6,h7,h8,h9,jA,jB,jC,jD,jE,jF,jG,jH,jI,jJ,jK,jL,jM,jN,jO,jP,jQ,jR,jS,jT,jU,jV,jW,jX,jY,jZ,j0,j1,j2,j3,j4,j5,j6,j7,j8,j9,kA,kB,kC,kD,kE,kF,kG,kH,kI,kJ,kK,kL,kM,kN,kO,kP,kQ,kR,kS,kT,kU,kV,kW,kX,kY,kZ,k0,k1,k2,k3,k4,k5,k6,k7,k8,k9,mA,mB,mC,mD,mE,mF,mG,mH,mI,mJ,mK,mL,mM,mN,mO,mP] M:=by kernel_rfl
theorem k9_43:P9 [1,1,1,1,1,1,0,1,0,0]=.seq (P9 [1,1,1,1,1,1,0,1,0,0,0]) (P9 [1,1,1,1,1,1,0,1,0,0,1]):=by kernel_rfl
theorem k9_44:P9 [1,1,1,1,1,1,0,1,0,0,0]=.seq (P9 [1,1,1,1,1,1,0,1,0,0,0,0]) (P9 [1,1,1,1,1,1,0,1,0,0,0,1]):=by kernel_rfl
theorem k9_45:P9 [1,1,1,1,1,1,0,1,0,0,0,0]=.region 14 (O9 [1,1,1,1,1,1,0,1,0,0,0,0]) false:=by kernel_rfl
theorem r9_14 {Y6:Option Addr} {l6 y6:Nat} {x7:Int} {M:Mem} {call:CallM} {K:Array Value→Mem→R} :
 opsK Try.prog (fun _=>call) (O9 [1,1,1,1,1,1,0,1,0,0,0,0]) (O9 [1,1,1,1,1,1,0,1,0,0,0,0]).toList 0 #[g0,g1,g2,g3,g4,g5,.slice Y6 l6 y6,.int .i64 x7,g8,g9,gA,gB,gC,gD,gE,gF,gG,gH,gI,gJ,gK,gL,gM,gN,gO,gP,gQ,gR,gS,gT,gU,gV,gW,gX,gY,gZ,hA,hB,hC,hD,hE,hF,hG,hH,hI,hJ,hK,hL,hM,hN,hO,hP,hQ,hR,hS,hT,hU,hV,hW,hX,hY,hZ,h0,h1,h2,h3,h4,h5,h6,h7,h8,h9,jA,jB,jC,jD,jE,jF,jG,jH,jI,jJ,jK,jL,jM,jN,jO,jP,jQ,jR,jS,jT,jU,jV,jW,jX,jY,jZ,j0,j1,j2,j3,j4,j5,j6,j7,j8,j9,kA,kB,kC,kD,kE,kF,kG,kH,kI,kJ,kK,kL,kM,kN,kO,kP,kQ,kR,kS,kT,kU,kV,kW,kX,kY,kZ,k0,k1,k2,k3,k4,k5,k6,k7,k8,k9,mA,mB,mC,mD,mE,mF,mG,mH,mI,mJ,mK,mL,mM,mN,mO,mP] M K=K #[g0,g1,g2,g3,g4,g5,.slice Y6 l6 y6,.int .i64 x7,g8,g9,gA,gB,gC,gD,gE,gF,gG,gH,gI,gJ,gK,gL,gM,gN,gO,gP,gQ,gR,gS,gT,gU,gV,gW,gX,gY,gZ,hA,hB,hC,hD,hE,hF,hG,hH,hI,hJ,hK,hL,hM,hN,hO,hP,hQ,hR,hS,hT,hU,hV,hW,hX,hY,hZ,h0,h1,h2,h3,h4,h5,h6,h7,h8,h9,jA,jB,jC,jD,jE,jF,jG,jH,jI,jJ,jK,jL,jM,jN,jO,.int .i64 x7,.slice Y6 l6 y6,.int .i64 ((l6:Int)),.bool (decide (x7<((l6:Int)))),jT,jU,jV,jW,jX,jY,jZ,j0,j1,j2,j3,j4,j5,j6,j7,j8,j9,kA,kB,kC,kD,kE,kF,kG,kH,kI,kJ,kK,kL,kM,kN,kO,kP,kQ,kR,kS,kT,kU,kV,kW,kX,kY,kZ,k0,k1,k2,k3,k4,k5,k6,k7,k8,k9,mA,mB,mC,mD,mE,mF,mG,mH,mI,mJ,mK,mL,mM,mN,mO,mP] M:=by kernel_rfl
theorem c9_46:P9 [1,1,1,1,1,1,0,1,0,0,0,1]=.cond (.tmp 90) (P9 [1,1,1,1,1,1,0,1,0,0,0,1,0]) (P9 [1,1,1,1,1,1,0,1,0,0,0,1,1]):=by kernel_rfl
theorem k9_47:P9 [1,1,1,1,1,1,0,1,0,0,0,1,0]=.skip:=by kernel_rfl
theorem k9_48:P9 [1,1,1,1,1,1,0,1,0,0,1]=.seq (P9 [1,1,1,1,1,1,0,1,0,0,1,0]) (P9 [1,1,1,1,1,1,0,1,0,0,1,1]):=by kernel_rfl
theorem k9_49:P9 [1,1,1,1,1,1,0,1,0,0,1,0]=.block 5 (P9 [1,1,1,1,1,1,0,1,0,0,1,0,0]):=by kernel_rfl
theorem k9_50:P9 [1,1,1,1,1,1,0,1,0,0,1,0,0]=.seq (P9 [1,1,1,1,1,1,0,1,0,0,1,0,0,0]) (P9 [1,1,1,1,1,1,0,1,0,0,1,0,0,1]):=by kernel_rfl
theorem k9_51:P9 [1,1,1,1,1,1,0,1,0,0,1,0,0,0]=.seq (P9 [1,1,1,1,1,1,0,1,0,0,1,0,0,0,0]) (P9 [1,1,1,1,1,1,0,1,0,0,1,0,0,0,1]):=by kernel_rfl
theorem k9_52:P9 [1,1,1,1,1,1,0,1,0,0,1,0,0,0,0]=.region 16 (O9 [1,1,1,1,1,1,0,1,0,0,1,0,0,0,0]) false:=by kernel_rfl
theorem r9_16 {M:Mem} {call:CallM} {K:Array Value→Mem→R} :
 opsK Try.prog (fun _=>call) (O9 [1,1,1,1,1,1,0,1,0,0,1,0,0,0,0]) (O9 [1,1,1,1,1,1,0,1,0,0,1,0,0,0,0]).toList 0 #[g0,g1,g2,g3,g4,g5,g6,g7,g8,g9,gA,gB,gC,gD,gE,gF,gG,gH,gI,gJ,gK,gL,gM,gN,gO,gP,gQ,gR,gS,gT,gU,gV,gW,gX,gY,gZ,hA,hB,hC,hD,hE,hF,hG,hH,hI,hJ,hK,hL,hM,hN,hO,hP,hQ,hR,hS,hT,hU,hV,hW,hX,hY,hZ,h0,h1,h2,h3,h4,h5,h6,h7,h8,h9,jA,jB,jC,jD,jE,jF,jG,jH,jI,jJ,jK,jL,jM,jN,jO,jP,jQ,jR,jS,jT,jU,jV,jW,jX,jY,jZ,j0,j1,j2,j3,j4,j5,j6,j7,j8,j9,kA,kB,kC,kD,kE,kF,kG,kH,kI,kJ,kK,kL,kM,kN,kO,kP,kQ,kR,kS,kT,kU,kV,kW,kX,kY,kZ,k0,k1,k2,k3,k4,k5,k6,k7,k8,k9,mA,mB,mC,mD,mE,mF,mG,mH,mI,mJ,mK,mL,mM,mN,mO,mP] M K=K #[g0,g1,g2,g3,g4,g5,g6,g7,.int .i64 (-1),g9,gA,gB,gC,gD,gE,gF,gG,gH,gI,gJ,gK,gL,gM,gN,gO,gP,gQ,gR,gS,gT,gU,gV,gW,gX,gY,gZ,hA,hB,hC,hD,hE,hF,hG,hH,hI,hJ,hK,hL,hM,hN,hO,hP,hQ,hR,hS,hT,hU,hV,hW,hX,hY,hZ,h0,h1,h2,h3,h4,h5,h6,h7,h8,h9,jA,jB,jC,jD,jE,jF,jG,jH,jI,jJ,jK,jL,jM,jN,jO,jP,jQ,jR,jS,jT,jU,jV,jW,jX,jY,jZ,j0,j1,j2,j3,j4,j5,j6,j7,j8,j9,kA,kB,kC,kD,kE,kF,kG,kH,kI,kJ,kK,kL,kM,kN,kO,kP,kQ,kR,kS,kT,kU,kV,kW,kX,kY,kZ,k0,k1,k2,k3,k4,k5,k6,k7,k8,k9,mA,mB,mC,mD,mE,mF,mG,mH,mI,mJ,mK,mL,mM,mN,mO,mP] M:=by kernel_rfl
theorem k9_53:P9 [1,1,1,1,1,1,0,1,0,0,1,0,0,0,1]=.block 6 (P9 [1,1,1,1,1,1,0,1,0,0,1,0,0,0,1,0]):=by kernel_rfl
theorem k9_54:P9 [1,1,1,1,1,1,0,1,0,0,1,0,0,0,1,0]=.loop (P9 [1,1,1,1,1,1,0,1,0,0,1,0,0,0,1,0,0]):=by kernel_rfl
theorem k9_55:P9 [1,1,1,1,1,1,0,1,0,0,0,1,1]=.exit 4:=by kernel_rfl
theorem k9_56:P9 [1,1,1,1,1,1,1]=.seq (P9 [1,1,1,1,1,1,1,0]) (P9 [1,1,1,1,1,1,1,1]):=by kernel_rfl
theorem k9_57:P9 [1,1,1,1,1,1,1,0]=.region 23 (O9 [1,1,1,1,1,1,1,0]) false:=by kernel_rfl
theorem r9_23 {M:Mem} {call:CallM} {K:Array Value→Mem→R} :
 opsK Try.prog (fun _=>call) (O9 [1,1,1,1,1,1,1,0]) (O9 [1,1,1,1,1,1,1,0]).toList 0 #[g0,g1,g2,g3,g4,g5,g6,g7,g8,g9,gA,gB,gC,gD,gE,gF,gG,gH,gI,gJ,gK,gL,gM,gN,gO,gP,gQ,gR,gS,gT,gU,gV,gW,gX,gY,gZ,hA,hB,hC,hD,hE,hF,hG,hH,hI,hJ,hK,hL,hM,hN,hO,hP,hQ,hR,hS,hT,hU,hV,hW,hX,hY,hZ,h0,h1,h2,h3,h4,h5,h6,h7,h8,h9,jA,jB,jC,jD,jE,jF,jG,jH,jI,jJ,jK,jL,jM,jN,jO,jP,jQ,jR,jS,jT,jU,jV,jW,jX,jY,jZ,j0,j1,j2,j3,j4,j5,j6,j7,j8,j9,kA,kB,kC,kD,kE,kF,kG,kH,kI,kJ,kK,kL,kM,kN,kO,kP,kQ,kR,kS,kT,kU,kV,kW,kX,kY,kZ,k0,k1,k2,k3,k4,k5,k6,k7,k8,k9,mA,mB,mC,mD,mE,mF,mG,mH,mI,mJ,mK,mL,mM,mN,mO,mP] M K=(makeP Try.prog 45 (.int .i64 17) (.int .i64 17) M).bind fun r_1=>(asS r_1.1).bind fun s_2=>K #[g0,g1,g2,g3,g4,g5,g6,g7,g8,.slice s_2.1 (s_2.2.1) (s_2.2.2),gA,gB,gC,gD,gE,gF,gG,gH,gI,gJ,gK,gL,gM,gN,gO,gP,gQ,gR,gS,gT,gU,gV,gW,gX,gY,gZ,hA,hB,hC,hD,hE,hF,hG,hH,hI,hJ,hK,hL,hM,hN,hO,hP,hQ,hR,hS,hT,hU,hV,hW,hX,hY,hZ,h0,h1,h2,h3,h4,h5,h6,h7,h8,h9,jA,jB,jC,jD,jE,jF,jG,jH,jI,jJ,jK,jL,jM,jN,jO,jP,jQ,jR,jS,jT,jU,jV,jW,jX,jY,jZ,j0,j1,j2,j3,j4,j5,j6,j7,j8,j9,kA,kB,kC,kD,kE,kF,kG,kH,kI,kJ,kK,kL,.slice s_2.1 (s_2.2.1) (s_2.2.2),kN,kO,kP,kQ,kR,kS,kT,kU,kV,kW,kX,kY,kZ,k0,k1,k2,k3,k4,k5,k6,k7,k8,k9,mA,mB,mC,mD,mE,mF,mG,mH,mI,mJ,mK,mL,mM,mN,mO,mP] r_1.2:=by kernel_rfl
theorem k9_58:P9 [1,1,1,1,1,1,1,1]=.seq (P9 [1,1,1,1,1,1,1,1,0]) (P9 [1,1,1,1,1,1,1,1,1]):=by kernel_rfl
theorem k9_60:P9 [1,1,1,1,1,1,1,1,0]=.region 24 (O9 [1,1,1,1,1,1,1,1,0]) false∧(!false || drawOk (O9 [1,1,1,1,1,1,1,1,0]))=true:=⟨by kernel_rfl,by kernel_rfl⟩
theorem r9_24p0 {M:Mem} {call:CallM} {K:Array Value→Mem→R} :
 segK Try.prog false call (O9 [1,1,1,1,1,1,1,1,0]) 0 4 #[g0,g1,g2,g3,g4,g5,g6,g7,g8,g9,gA,gB,gC,gD,gE,gF,gG,gH,gI,gJ,gK,gL,gM,gN,gO,gP,gQ,gR,gS,gT,gU,gV,gW,gX,gY,gZ,hA,hB,hC,hD,hE,hF,hG,hH,hI,hJ,hK,hL,hM,hN,hO,hP,hQ,hR,hS,hT,hU,hV,hW,hX,hY,hZ,h0,h1,h2,h3,h4,h5,h6,h7,h8,h9,jA,jB,jC,jD,jE,jF,jG,jH,jI,jJ,jK,jL,jM,jN,jO,jP,jQ,jR,jS,jT,jU,jV,jW,jX,jY,jZ,j0,j1,j2,j3,j4,j5,j6,j7,j8,j9,kA,kB,kC,kD,kE,kF,kG,kH,kI,kJ,kK,kL,kM,kN,kO,kP,kQ,kR,kS,kT,kU,kV,kW,kX,kY,kZ,k0,k1,k2,k3,k4,k5,k6,k7,k8,k9,mA,mB,mC,mD,mE,mF,mG,mH,mI,mJ,mK,mL,mM,mN,mO,mP] M K=(call 14 #[] M).bind fun r_1=>(asB r_1.1).bind fun b_2=>K #[g0,g1,g2,g3,g4,g5,g6,g7,g8,g9,gA,gB,gC,gD,gE,gF,gG,gH,gI,gJ,gK,gL,gM,gN,gO,gP,gQ,gR,gS,gT,gU,gV,gW,gX,gY,gZ,hA,hB,hC,hD,hE,hF,hG,hH,hI,hJ,hK,hL,hM,hN,hO,hP,hQ,hR,hS,hT,hU,hV,hW,hX,hY,hZ,h0,h1,h2,h3,h4,h5,h6,h7,h8,h9,jA,jB,jC,jD,jE,jF,jG,jH,jI,jJ,jK,jL,jM,jN,jO,jP,jQ,jR,jS,jT,jU,jV,jW,jX,jY,jZ,j0,j1,j2,j3,j4,j5,j6,j7,j8,j9,kA,kB,kC,kD,kE,kF,kG,kH,kI,kJ,kK,kL,kM,.bool true,.bool b_2,.bool b_2,.bool b_2,kR,kS,kT,kU,kV,kW,kX,kY,kZ,k0,k1,k2,k3,k4,k5,k6,k7,k8,k9,mA,mB,mC,mD,mE,mF,mG,mH,mI,mJ,mK,mL,mM,mN,mO,mP] r_1.2:=by kernel_rfl
theorem r9_24p4 {Y9:Option Addr} {l9 y9:Nat} {x124:Bool} {M:Mem} {call:CallM} {K:Array Value→Mem→R} :
 segK Try.prog false call (O9 [1,1,1,1,1,1,1,1,0]) 4 5 #[g0,g1,g2,g3,g4,g5,g6,g7,g8,.slice Y9 l9 y9,gA,gB,gC,gD,gE,gF,gG,gH,gI,gJ,gK,gL,gM,gN,gO,gP,gQ,gR,gS,gT,gU,gV,gW,gX,gY,gZ,hA,hB,hC,hD,hE,hF,hG,hH,hI,hJ,hK,hL,hM,hN,hO,hP,hQ,hR,hS,hT,hU,hV,hW,hX,hY,hZ,h0,h1,h2,h3,h4,h5,h6,h7,h8,h9,jA,jB,jC,jD,jE,jF,jG,jH,jI,jJ,jK,jL,jM,jN,jO,jP,jQ,jR,jS,jT,jU,jV,jW,jX,jY,jZ,j0,j1,j2,j3,j4,j5,j6,j7,j8,j9,kA,kB,kC,kD,kE,kF,kG,kH,kI,kJ,kK,kL,kM,kN,kO,kP,.bool x124,kR,kS,kT,kU,kV,kW,kX,kY,kZ,k0,k1,k2,k3,k4,k5,k6,k7,k8,k9,mA,mB,mC,mD,mE,mF,mG,mH,mI,mJ,mK,mL,mM,mN,mO,mP] M K=withK (fun w124 w125 w126 w127 w128 w129 M=>K #[g0,g1,g2,g3,g4,g5,g6,g7,g8,.slice Y9 l9 y9,gA,gB,gC,gD,gE,gF,gG,gH,gI,gJ,gK,gL,gM,gN,gO,gP,gQ,gR,gS,gT,gU,gV,gW,gX,gY,gZ,hA,hB,hC,hD,hE,hF,hG,hH,hI,hJ,hK,hL,hM,hN,hO,hP,hQ,hR,hS,hT,hU,hV,hW,hX,hY,hZ,h0,h1,h2,h3,h4,h5,h6,h7,h8,h9,jA,jB,jC,jD,jE,jF,jG,jH,jI,jJ,jK,jL,jM,jN,jO,jP,jQ,jR,jS,jT,jU,jV,jW,jX,jY,jZ,j0,j1,j2,j3,j4,j5,j6,j7,j8,j9,kA,kB,kC,kD,kE,kF,kG,kH,kI,kJ,kK,kL,kM,kN,kO,kP,w124,w125,w126,w127,w128,w129,kW,kX,kY,kZ,k0,k1,k2,k3,k4,k5,k6,k7,k8,k9,mA,mB,mC,mD,mE,mF,mG,mH,mI,mJ,mK,mL,mM,mN,mO,mP] M) fun k=>cond x124 ((call 7 #[.slice Y9 l9 y9,.slice (some ⟨2*M.nb.size,0,none⟩) 3 3,.int .i64 2] (M.new (.cells #[.int .u8 1,.int .u8 7,.int .u8 0] 5))).bind fun r_1=>(asB r_1.1).bind fun b_2=>k (.bool true) (.slice Y9 l9 y9) (.slice (some ⟨2*M.nb.size,0,none⟩) 3 3) (.bool b_2) (.bool b_2) (.bool b_2) r_1.2) (k (.bool false) undef undef undef (.bool false) (.bool false) M):=by kernel_rfl
theorem c9_61:P9 [1,1,1,0,1,0,0,1,0,0,1,0,0,1,0,0,1]=.cond (.tmp 74) (P9 [1,1,1,0,1,0,0,1,0,0,1,0,0,1,0,0,1,0]) (P9 [1,1,1,0,1,0,0,1,0,0,1,0,0,1,0,0,1,1]):=by kernel_rfl
theorem k9_62:P9 [1,1,1,0,1,0,0,1,0,0,1,0,0,1,0,0,1,0]=.seq (P9 [1,1,1,0,1,0,0,1,0,0,1,0,0,1,0,0,1,0,0]) (P9 [1,1,1,0,1,0,0,1,0,0,1,0,0,1,0,0,1,0,1]):=by kernel_rfl
theorem k9_63:P9 [1,1,1,0,1,0,0,1,0,0,1,0,0,1,0,0,1,0,0]=.region 10 (O9 [1,1,1,0,1,0,0,1,0,0,1,0,0,1,0,0,1,0,0]) false:=by kernel_rfl
theorem r9_10 {M:Mem} {call:CallM} {K:Array Value→Mem→R} :
 opsK Try.prog (fun _=>call) (O9 [1,1,1,0,1,0,0,1,0,0,1,0,0,1,0,0,1,0,0]) (O9 [1,1,1,0,1,0,0,1,0,0,1,0,0,1,0,0,1,0,0]).toList 0 #[g0,g1,g2,g3,g4,g5,g6,g7,g8,g9,gA,gB,gC,gD,gE,gF,gG,gH,gI,gJ,gK,gL,gM,gN,gO,gP,gQ,gR,gS,gT,gU,gV,gW,gX,gY,gZ,hA,hB,hC,hD,hE,hF,hG,hH,hI,hJ,hK,hL,hM,hN,hO,hP,hQ,hR,hS,hT,hU,hV,hW,hX,hY,hZ,h0,h1,h2,h3,h4,h5,h6,h7,h8,h9,jA,jB,jC,jD,jE,jF,jG,jH,jI,jJ,jK,jL,jM,jN,jO,jP,jQ,jR,jS,jT,jU,jV,jW,jX,jY,jZ,j0,j1,j2,j3,j4,j5,j6,j7,j8,j9,kA,kB,kC,kD,kE,kF,kG,kH,kI,kJ,kK,kL,kM,kN,kO,kP,kQ,kR,kS,kT,kU,kV,kW,kX,kY,kZ,k0,k1,k2,k3,k4,k5,k6,k7,k8,k9,mA,mB,mC,mD,mE,mF,mG,mH,mI,mJ,mK,mL,mM,mN,mO,mP] M K=K #[.bool false,g1,g2,g3,g4,g5,g6,g7,g8,g9,gA,gB,gC,gD,gE,gF,gG,gH,gI,gJ,gK,gL,gM,gN,gO,gP,gQ,gR,gS,gT,gU,gV,gW,gX,gY,gZ,hA,hB,hC,hD,hE,hF,hG,hH,hI,hJ,hK,hL,hM,hN,hO,hP,hQ,hR,hS,hT,hU,hV,hW,hX,hY,hZ,h0,h1,h2,h3,h4,h5,h6,h7,h8,h9,jA,jB,jC,jD,jE,jF,jG,jH,jI,jJ,jK,jL,jM,jN,jO,jP,jQ,jR,jS,jT,jU,jV,jW,jX,jY,jZ,j0,j1,j2,j3,j4,j5,j6,j7,j8,j9,kA,kB,kC,kD,kE,kF,kG,kH,kI,kJ,kK,kL,kM,kN,kO,kP,kQ,kR,kS,kT,kU,kV,kW,kX,kY,kZ,k0,k1,k2,k3,k4,k5,k6,k7,k8,k9,mA,mB,mC,mD,mE,mF,mG,mH,mI,mJ,mK,mL,mM,mN,mO,mP] M:=by kernel_rfl
theorem k9_64:P9 [1,1,1,0,1,0,0,1,0,0,1,0,0,1,0,0,1,0,1]=.ret:=by kernel_rfl
theorem e9 {M:Mem}:finish Try.prog Try.f9 #[g0,g1,g2,g3,g4,g5,g6,g7,g8,g9,gA,gB,gC,gD,gE,gF,gG,gH,gI,gJ,gK,gL,gM,gN,gO,gP,gQ,gR,gS,gT,gU,gV,gW,gX,gY,gZ,hA,hB,hC,hD,hE,hF,hG,hH,hI,hJ,hK,hL,hM,hN,hO,hP,hQ,hR,hS,hT,hU,hV,hW,hX,hY,hZ,h0,h1,h2,h3,h4,h5,h6,h7,h8,h9,jA,jB,jC,jD,jE,jF,jG,jH,jI,jJ,jK,jL,jM,jN,jO,jP,jQ,jR,jS,jT,jU,jV,jW,jX,jY,jZ,j0,j1,j2,j3,j4,j5,j6,j7,j8,j9,kA,kB,kC,kD,kE,kF,kG,kH,kI,kJ,kK,kL,kM,kN,kO,kP,kQ,kR,kS,kT,kU,kV,kW,kX,kY,kZ,k0,k1,k2,k3,k4,k5,k6,k7,k8,k9,mA,mB,mC,mD,mE,mF,mG,mH,mI,mJ,mK,mL,mM,mN,mO,mP] M=some (g0,M):=by kernel_rfl
theorem k9_66:P9 [1,1,1,0,1,0,0,1,0,0,1,0,0,1,0,0,1,1]=.skip:=by kernel_rfl
theorem k9_67:P9 [1,1,1,0,1,0,0,1,0,0,1,0,0,1,1]=.region 8 (O9 [1,1,1,0,1,0,0,1,0,0,1,0,0,1,1]) false:=by kernel_rfl
theorem r9_8 {x4:Int} {M:Mem} {call:CallM} {K:Array Value→Mem→R} :
 opsK Try.prog (fun _=>call) (O9 [1,1,1,0,1,0,0,1,0,0,1,0,0,1,1]) (O9 [1,1,1,0,1,0,0,1,0,0,1,0,0,1,1]).toList 0 #[g0,g1,g2,g3,.int .i64 x4,g5,g6,g7,g8,g9,gA,gB,gC,gD,gE,gF,gG,gH,gI,gJ,gK,gL,gM,gN,gO,gP,gQ,gR,gS,gT,gU,gV,gW,gX,gY,gZ,hA,hB,hC,hD,hE,hF,hG,hH,hI,hJ,hK,hL,hM,hN,hO,hP,hQ,hR,hS,hT,hU,hV,hW,hX,hY,hZ,h0,h1,h2,h3,h4,h5,h6,h7,h8,h9,jA,jB,jC,jD,jE,jF,jG,jH,jI,jJ,jK,jL,jM,jN,jO,jP,jQ,jR,jS,jT,jU,jV,jW,jX,jY,jZ,j0,j1,j2,j3,j4,j5,j6,j7,j8,j9,kA,kB,kC,kD,kE,kF,kG,kH,kI,kJ,kK,kL,kM,kN,kO,kP,kQ,kR,kS,kT,kU,kV,kW,kX,kY,kZ,k0,k1,k2,k3,k4,k5,k6,k7,k8,k9,mA,mB,mC,mD,mE,mF,mG,mH,mI,mJ,mK,mL,mM,mN,mO,mP] M K=K #[g0,g1,g2,g3,.int .i64 (IntKind.i64.wrap (x4+1)),g5,g6,g7,g8,g9,gA,gB,gC,gD,gE,gF,gG,gH,gI,gJ,gK,gL,gM,gN,gO,gP,gQ,gR,gS,gT,gU,gV,.int .i64 x4,.int .i64 (IntKind.i64.wrap (x4+1)),gY,gZ,hA,hB,hC,hD,hE,hF,hG,hH,hI,hJ,hK,hL,hM,hN,hO,hP,hQ,hR,hS,hT,hU,hV,hW,hX,hY,hZ,h0,h1,h2,h3,h4,h5,h6,h7,h8,h9,jA,jB,jC,jD,jE,jF,jG,jH,jI,jJ,jK,jL,jM,jN,jO,jP,jQ,jR,jS,jT,jU,jV,jW,jX,jY,jZ,j0,j1,j2,j3,j4,j5,j6,j7,j8,j9,kA,kB,kC,kD,kE,kF,kG,kH,kI,kJ,kK,kL,kM,kN,kO,kP,kQ,kR,kS,kT,kU,kV,kW,kX,kY,kZ,k0,k1,k2,k3,k4,k5,k6,k7,k8,k9,mA,mB,mC,mD,mE,mF,mG,mH,mI,mJ,mK,mL,mM,mN,mO,mP] M:=by kernel_rfl
theorem k9_68:P9 [1,1,1,1,1,1,0,1,0,0,1,0,0,0,1,0,0]=.seq (P9 [1,1,1,1,1,1,0,1,0,0,1,0,0,0,1,0,0,0]) (P9 [1,1,1,1,1,1,0,1,0,0,1,0,0,0,1,0,0,1]):=by kernel_rfl
theorem k9_69:P9 [1,1,1,1,1,1,0,1,0,0,1,0,0,0,1,0,0,0]=.seq (P9 [1,1,1,1,1,1,0,1,0,0,1,0,0,0,1,0,0,0,0]) (P9 [1,1,1,1,1,1,0,1,0,0,1,0,0,0,1,0,0,0,1]):=by kernel_rfl
theorem k9_70:P9 [1,1,1,1,1,1,0,1,0,0,1,0,0,0,1,0,0,0,0]=.region 17 (O9 [1,1,1,1,1,1,0,1,0,0,1,0,0,0,1,0,0,0,0]) false:=by kernel_rfl
theorem r9_17 {x8:Int} {M:Mem} {call:CallM} {K:Array Value→Mem→R} :
 opsK Try.prog (fun _=>call) (O9 [1,1,1,1,1,1,0,1,0,0,1,0,0,0,1,0,0,0,0]) (O9 [1,1,1,1,1,1,0,1,0,0,1,0,0,0,1,0,0,0,0]).toList 0 #[g0,g1,g2,g3,g4,g5,g6,g7,.int .i64 x8,g9,gA,gB,gC,gD,gE,gF,gG,gH,gI,gJ,gK,gL,gM,gN,gO,gP,gQ,gR,gS,gT,gU,gV,gW,gX,gY,gZ,hA,hB,hC,hD,hE,hF,hG,hH,hI,hJ,hK,hL,hM,hN,hO,hP,hQ,hR,hS,hT,hU,hV,hW,hX,hY,hZ,h0,h1,h2,h3,h4,h5,h6,h7,h8,h9,jA,jB,jC,jD,jE,jF,jG,jH,jI,jJ,jK,jL,jM,jN,jO,jP,jQ,jR,jS,jT,jU,jV,jW,jX,jY,jZ,j0,j1,j2,j3,j4,j5,j6,j7,j8,j9,kA,kB,kC,kD,kE,kF,kG,kH,kI,kJ,kK,kL,kM,kN,kO,kP,kQ,kR,kS,kT,kU,kV,kW,kX,kY,kZ,k0,k1,k2,k3,k4,k5,k6,k7,k8,k9,mA,mB,mC,mD,mE,mF,mG,mH,mI,mJ,mK,mL,mM,mN,mO,mP] M K=K #[g0,g1,g2,g3,g4,g5,g6,g7,.int .i64 x8,g9,gA,gB,gC,gD,gE,gF,gG,gH,gI,gJ,gK,gL,gM,gN,gO,gP,gQ,gR,gS,gT,gU,gV,gW,gX,gY,gZ,hA,hB,hC,hD,hE,hF,hG,hH,hI,hJ,hK,hL,hM,hN,hO,hP,hQ,hR,hS,hT,hU,hV,hW,hX,hY,hZ,h0,h1,h2,h3,h4,h5,h6,h7,h8,h9,jA,jB,jC,jD,jE,jF,jG,jH,jI,jJ,jK,jL,jM,jN,jO,jP,jQ,jR,jS,jT,jU,.int .i64 x8,.bool (decide (x8<3)),jX,jY,jZ,j0,j1,j2,j3,j4,j5,j6,j7,j8,j9,kA,kB,kC,kD,kE,kF,kG,kH,kI,kJ,kK,kL,kM,kN,kO,kP,kQ,kR,kS,kT,kU,kV,kW,kX,kY,kZ,k0,k1,k2,k3,k4,k5,k6,k7,k8,k9,mA,mB,mC,mD,mE,mF,mG,mH,mI,mJ,mK,mL,mM,mN,mO,mP] M:=by kernel_rfl
theorem c9_71:P9 [1,1,1,1,1,1,0,1,0,0,1,0,0,0,1,0,0,0,1]=.cond (.tmp 94) (P9 [1,1,1,1,1,1,0,1,0,0,1,0,0,0,1,0,0,0,1,0]) (P9 [1,1,1,1,1,1,0,1,0,0,1,0,0,0,1,0,0,0,1,1]):=by kernel_rfl
theorem k9_72:P9 [1,1,1,1,1,1,0,1,0,0,1,0,0,0,1,0,0,0,1,0]=.skip:=by kernel_rfl
theorem k9_73:P9 [1,1,1,1,1,1,0,1,0,0,1,0,0,0,1,0,0,1]=.seq (P9 [1,1,1,1,1,1,0,1,0,0,1,0,0,0,1,0,0,1,0]) (P9 [1,1,1,1,1,1,0,1,0,0,1,0,0,0,1,0,0,1,1]):=by kernel_rfl
theorem k9_74:P9 [1,1,1,1,1,1,0,1,0,0,1,0,0,0,1,0,0,1,0]=.block 7 (P9 [1,1,1,1,1,1,0,1,0,0,1,0,0,0,1,0,0,1,0,0]):=by kernel_rfl
theorem k9_75:P9 [1,1,1,1,1,1,0,1,0,0,1,0,0,0,1,0,0,1,0,0]=.seq (P9 [1,1,1,1,1,1,0,1,0,0,1,0,0,0,1,0,0,1,0,0,0]) (P9 [1,1,1,1,1,1,0,1,0,0,1,0,0,0,1,0,0,1,0,0,1]):=by kernel_rfl
theorem k9_76:P9 [1,1,1,1,1,1,0,1,0,0,1,0,0,0,1,0,0,1,0,0,0]=.region 19 (O9 [1,1,1,1,1,1,0,1,0,0,1,0,0,0,1,0,0,1,0,0,0]) false:=by kernel_rfl
theorem r9_19 {Y6:Option Addr} {l6 y6:Nat} {x7 x8:Int} {M:Mem} {call:CallM} {K:Array Value→Mem→R} :
 opsK Try.prog (fun _=>call) (O9 [1,1,1,1,1,1,0,1,0,0,1,0,0,0,1,0,0,1,0,0,0]) (O9 [1,1,1,1,1,1,0,1,0,0,1,0,0,0,1,0,0,1,0,0,0]).toList 0 #[g0,g1,g2,g3,g4,g5,.slice Y6 l6 y6,.int .i64 x7,.int .i64 x8,g9,gA,gB,gC,gD,gE,gF,gG,gH,gI,gJ,gK,gL,gM,gN,gO,gP,gQ,gR,gS,gT,gU,gV,gW,gX,gY,gZ,hA,hB,hC,hD,hE,hF,hG,hH,hI,hJ,hK,hL,hM,hN,hO,hP,hQ,hR,hS,hT,hU,hV,hW,hX,hY,hZ,h0,h1,h2,h3,h4,h5,h6,h7,h8,h9,jA,jB,jC,jD,jE,jF,jG,jH,jI,jJ,jK,jL,jM,jN,jO,jP,jQ,jR,jS,jT,jU,jV,jW,jX,jY,jZ,j0,j1,j2,j3,j4,j5,j6,j7,j8,j9,kA,kB,kC,kD,kE,kF,kG,kH,kI,kJ,kK,kL,kM,kN,kO,kP,kQ,kR,kS,kT,kU,kV,kW,kX,kY,kZ,k0,k1,k2,k3,k4,k5,k6,k7,k8,k9,mA,mB,mC,mD,mE,mF,mG,mH,mI,mJ,mK,mL,mM,mN,mO,mP] M K=(idxA Y6 l6 1 x7).bind fun a_1=>(M.slAt a_1.block a_1.off).bind fun s_2=>(call 3 #[.slice s_2.1 (s_2.2.1) (s_2.2.2),.int .i64 x8,.slice (some ⟨2*M.nb.size,0,none⟩) 4 4] (M.new (.cells #[.int .i64 1,.int .i64 1,.int .i64 0,.int .i64 (-5)] 3))).bind fun r_3=>(asB r_3.1).bind fun b_4=>K #[g0,g1,g2,g3,g4,g5,.slice Y6 l6 y6,.int .i64 x7,.int .i64 x8,g9,gA,gB,gC,gD,gE,gF,gG,gH,gI,gJ,gK,gL,gM,gN,gO,gP,gQ,gR,gS,gT,gU,gV,gW,gX,gY,gZ,hA,hB,hC,hD,hE,hF,hG,hH,hI,hJ,hK,hL,hM,hN,hO,hP,hQ,hR,hS,hT,hU,hV,hW,hX,hY,hZ,h0,h1,h2,h3,h4,h5,h6,h7,h8,h9,jA,jB,jC,jD,jE,jF,jG,jH,jI,jJ,jK,jL,jM,jN,jO,jP,jQ,jR,jS,jT,jU,jV,jW,jX,jY,.slice Y6 l6 y6,.int .i64 x7,.pointer (some a_1),.slice s_2.1 (s_2.2.1) (s_2.2.2),.int .i64 x8,.slice (some ⟨2*M.nb.size,0,none⟩) 4 4,.bool b_4,.bool (!b_4),j7,j8,j9,kA,kB,kC,kD,kE,kF,kG,kH,kI,kJ,kK,kL,kM,kN,kO,kP,kQ,kR,kS,kT,kU,kV,kW,kX,kY,kZ,k0,k1,k2,k3,k4,k5,k6,k7,k8,k9,mA,mB,mC,mD,mE,mF,mG,mH,mI,mJ,mK,mL,mM,mN,mO,mP] r_3.2:=by kernel_rfl
theorem c9_77:P9 [1,1,1,1,1,1,0,1,0,0,1,0,0,0,1,0,0,1,0,0,1]=.cond (.tmp 104) (P9 [1,1,1,1,1,1,0,1,0,0,1,0,0,0,1,0,0,1,0,0,1,0]) (P9 [1,1,1,1,1,1,0,1,0,0,1,0,0,0,1,0,0,1,0,0,1,1]):=by kernel_rfl
theorem k9_78:P9 [1,1,1,1,1,1,0,1,0,0,1,0,0,0,1,0,0,1,0,0,1,0]=.seq (P9 [1,1,1,1,1,1,0,1,0,0,1,0,0,0,1,0,0,1,0,0,1,0,0]) (P9 [1,1,1,1,1,1,0,1,0,0,1,0,0,0,1,0,0,1,0,0,1,0,1]):=by kernel_rfl
theorem k9_79:P9 [1,1,1,1,1,1,0,1,0,0,1,0,0,0,1,0,0,1,0,0,1,0,0]=.region 20 (O9 [1,1,1,1,1,1,0,1,0,0,1,0,0,0,1,0,0,1,0,0,1,0,0]) false:=by kernel_rfl
theorem r9_20 {M:Mem} {call:CallM} {K:Array Value→Mem→R} :
 opsK Try.prog (fun _=>call) (O9 [1,1,1,1,1,1,0,1,0,0,1,0,0,0,1,0,0,1,0,0,1,0,0]) (O9 [1,1,1,1,1,1,0,1,0,0,1,0,0,0,1,0,0,1,0,0,1,0,0]).toList 0 #[g0,g1,g2,g3,g4,g5,g6,g7,g8,g9,gA,gB,gC,gD,gE,gF,gG,gH,gI,gJ,gK,gL,gM,gN,gO,gP,gQ,gR,gS,gT,gU,gV,gW,gX,gY,gZ,hA,hB,hC,hD,hE,hF,hG,hH,hI,hJ,hK,hL,hM,hN,hO,hP,hQ,hR,hS,hT,hU,hV,hW,hX,hY,hZ,h0,h1,h2,h3,h4,h5,h6,h7,h8,h9,jA,jB,jC,jD,jE,jF,jG,jH,jI,jJ,jK,jL,jM,jN,jO,jP,jQ,jR,jS,jT,jU,jV,jW,jX,jY,jZ,j0,j1,j2,j3,j4,j5,j6,j7,j8,j9,kA,kB,kC,kD,kE,kF,kG,kH,kI,kJ,kK,kL,kM,kN,kO,kP,kQ,kR,kS,kT,kU,kV,kW,kX,kY,kZ,k0,k1,k2,k3,k4,k5,k6,k7,k8,k9,mA,mB,mC,mD,mE,mF,mG,mH,mI,mJ,mK,mL,mM,mN,mO,mP] M K=K #[.bool false,g1,g2,g3,g4,g5,g6,g7,g8,g9,gA,gB,gC,gD,gE,gF,gG,gH,gI,gJ,gK,gL,gM,gN,gO,gP,gQ,gR,gS,gT,gU,gV,gW,gX,gY,gZ,hA,hB,hC,hD,hE,hF,hG,hH,hI,hJ,hK,hL,hM,hN,hO,hP,hQ,hR,hS,hT,hU,hV,hW,hX,hY,hZ,h0,h1,h2,h3,h4,h5,h6,h7,h8,h9,jA,jB,jC,jD,jE,jF,jG,jH,jI,jJ,jK,jL,jM,jN,jO,jP,jQ,jR,jS,jT,jU,jV,jW,jX,jY,jZ,j0,j1,j2,j3,j4,j5,j6,j7,j8,j9,kA,kB,kC,kD,kE,kF,kG,kH,kI,kJ,kK,kL,kM,kN,kO,kP,kQ,kR,kS,kT,kU,kV,kW,kX,kY,kZ,k0,k1,k2,k3,k4,k5,k6,k7,k8,k9,mA,mB,mC,mD,mE,mF,mG,mH,mI,mJ,mK,mL,mM,mN,mO,mP] M:=by kernel_rfl
theorem k9_80:P9 [1,1,1,1,1,1,0,1,0,0,1,0,0,0,1,0,0,1,0,0,1,0,1]=.ret:=by kernel_rfl
theorem k9_81:P9 [1,1,1,1,1,1,0,1,0,0,1,0,0,0,1,0,0,1,0,0,1,1]=.skip:=by kernel_rfl
theorem k9_82:P9 [1,1,1,1,1,1,0,1,0,0,1,0,0,0,1,0,0,1,1]=.region 18 (O9 [1,1,1,1,1,1,0,1,0,0,1,0,0,0,1,0,0,1,1]) false:=by kernel_rfl
theorem r9_18 {x8:Int} {M:Mem} {call:CallM} {K:Array Value→Mem→R} :
 opsK Try.prog (fun _=>call) (O9 [1,1,1,1,1,1,0,1,0,0,1,0,0,0,1,0,0,1,1]) (O9 [1,1,1,1,1,1,0,1,0,0,1,0,0,0,1,0,0,1,1]).toList 0 #[g0,g1,g2,g3,g4,g5,g6,g7,.int .i64 x8,g9,gA,gB,gC,gD,gE,gF,gG,gH,gI,gJ,gK,gL,gM,gN,gO,gP,gQ,gR,gS,gT,gU,gV,gW,gX,gY,gZ,hA,hB,hC,hD,hE,hF,hG,hH,hI,hJ,hK,hL,hM,hN,hO,hP,hQ,hR,hS,hT,hU,hV,hW,hX,hY,hZ,h0,h1,h2,h3,h4,h5,h6,h7,h8,h9,jA,jB,jC,jD,jE,jF,jG,jH,jI,jJ,jK,jL,jM,jN,jO,jP,jQ,jR,jS,jT,jU,jV,jW,jX,jY,jZ,j0,j1,j2,j3,j4,j5,j6,j7,j8,j9,kA,kB,kC,kD,kE,kF,kG,kH,kI,kJ,kK,kL,kM,kN,kO,kP,kQ,kR,kS,kT,kU,kV,kW,kX,kY,kZ,k0,k1,k2,k3,k4,k5,k6,k7,k8,k9,mA,mB,mC,mD,mE,mF,mG,mH,mI,mJ,mK,mL,mM,mN,mO,mP] M K=K #[g0,g1,g2,g3,g4,g5,g6,g7,.int .i64 (IntKind.i64.wrap (x8+1)),g9,gA,gB,gC,gD,gE,gF,gG,gH,gI,gJ,gK,gL,gM,gN,gO,gP,gQ,gR,gS,gT,gU,gV,gW,gX,gY,gZ,hA,hB,hC,hD,hE,hF,hG,hH,hI,hJ,hK,hL,hM,hN,hO,hP,hQ,hR,hS,hT,hU,hV,hW,hX,hY,hZ,h0,h1,h2,h3,h4,h5,h6,h7,h8,h9,jA,jB,jC,jD,jE,jF,jG,jH,jI,jJ,jK,jL,jM,jN,jO,jP,jQ,jR,jS,jT,jU,jV,jW,.int .i64 x8,.int .i64 (IntKind.i64.wrap (x8+1)),jZ,j0,j1,j2,j3,j4,j5,j6,j7,j8,j9,kA,kB,kC,kD,kE,kF,kG,kH,kI,kJ,kK,kL,kM,kN,kO,kP,kQ,kR,kS,kT,kU,kV,kW,kX,kY,kZ,k0,k1,k2,k3,k4,k5,k6,k7,k8,k9,mA,mB,mC,mD,mE,mF,mG,mH,mI,mJ,mK,mL,mM,mN,mO,mP] M:=by kernel_rfl
theorem k9_83:P9 [1,1,1,1,1,1,0,1,0,0,1,0,0,0,1,0,0,0,1,1]=.exit 6:=by kernel_rfl
theorem k9_84:P9 [1,1,1,1,1,1,0,1,0,0,1,0,0,1]=.seq (P9 [1,1,1,1,1,1,0,1,0,0,1,0,0,1,0]) (P9 [1,1,1,1,1,1,0,1,0,0,1,0,0,1,1]):=by kernel_rfl
theorem k9_85:P9 [1,1,1,1,1,1,0,1,0,0,1,0,0,1,0]=.region 21 (O9 [1,1,1,1,1,1,0,1,0,0,1,0,0,1,0]) false:=by kernel_rfl
theorem r9_21 {Y6:Option Addr} {l6 y6:Nat} {x7:Int} {M:Mem} {call:CallM} {K:Array Value→Mem→R} :
 opsK Try.prog (fun _=>call) (O9 [1,1,1,1,1,1,0,1,0,0,1,0,0,1,0]) (O9 [1,1,1,1,1,1,0,1,0,0,1,0,0,1,0]).toList 0 #[g0,g1,g2,g3,g4,g5,.slice Y6 l6 y6,.int .i64 x7,g8,g9,gA,gB,gC,gD,gE,gF,gG,gH,gI,gJ,gK,gL,gM,gN,gO,gP,gQ,gR,gS,gT,gU,gV,gW,gX,gY,gZ,hA,hB,hC,hD,hE,hF,hG,hH,hI,hJ,hK,hL,hM,hN,hO,hP,hQ,hR,hS,hT,hU,hV,hW,hX,hY,hZ,h0,h1,h2,h3,h4,h5,h6,h7,h8,h9,jA,jB,jC,jD,jE,jF,jG,jH,jI,jJ,jK,jL,jM,jN,jO,jP,jQ,jR,jS,jT,jU,jV,jW,jX,jY,jZ,j0,j1,j2,j3,j4,j5,j6,j7,j8,j9,kA,kB,kC,kD,kE,kF,kG,kH,kI,kJ,kK,kL,kM,kN,kO,kP,kQ,kR,kS,kT,kU,kV,kW,kX,kY,kZ,k0,k1,k2,k3,k4,k5,k6,k7,k8,k9,mA,mB,mC,mD,mE,mF,mG,mH,mI,mJ,mK,mL,mM,mN,mO,mP] M K=withK (fun w107 w108 w109 w110 w111 w112 w113 w114 w115 w116 w117 w118 w119 M=>K #[g0,g1,g2,g3,g4,g5,.slice Y6 l6 y6,.int .i64 x7,g8,g9,gA,gB,gC,gD,gE,gF,gG,gH,gI,gJ,gK,gL,gM,gN,gO,gP,gQ,gR,gS,gT,gU,gV,gW,gX,gY,gZ,hA,hB,hC,hD,hE,hF,hG,hH,hI,hJ,hK,hL,hM,hN,hO,hP,hQ,hR,hS,hT,hU,hV,hW,hX,hY,hZ,h0,h1,h2,h3,h4,h5,h6,h7,h8,h9,jA,jB,jC,jD,jE,jF,jG,jH,jI,jJ,jK,jL,jM,jN,jO,jP,jQ,jR,jS,jT,jU,jV,jW,jX,jY,jZ,j0,j1,j2,j3,j4,j5,j6,.slice Y6 l6 y6,.int .i64 x7,w107,w108,w109,w110,w111,w112,w113,w114,w115,w116,w117,w118,w119,kM,kN,kO,kP,kQ,kR,kS,kT,kU,kV,kW,kX,kY,kZ,k0,k1,k2,k3,k4,k5,k6,k7,k8,k9,mA,mB,mC,mD,mE,mF,mG,mH,mI,mJ,mK,mL,mM,mN,mO,mP] M) fun k=>(idxA Y6 l6 1 x7).bind fun a_1=>(M.slAt a_1.block a_1.off).bind fun s_2=>(call 3 #[.slice s_2.1 (s_2.2.1) (s_2.2.2),.int .i64 64,.slice (some ⟨2*M.nb.size,0,none⟩) 2 2] (M.new (.cells #[.int .i64 4611686018427387904,.int .i64 (-9223372036854775808)] 3))).bind fun r_3=>(asB r_3.1).bind fun b_4=>cond (!b_4) (k (.pointer (some a_1)) (.slice s_2.1 (s_2.2.1) (s_2.2.2)) (.slice (some ⟨2*M.nb.size,0,none⟩) 2 2) (.bool b_4) (.bool (!b_4)) (.bool true) undef undef undef undef undef undef (.bool true) r_3.2) ((idxA Y6 l6 1 x7).bind fun a_5=>(r_3.2.slAt a_5.block a_5.off).bind fun s_6=>(call 3 #[.slice s_6.1 (s_6.2.1) (s_6.2.2),.int .i64 65,.slice none 0 0] r_3.2).bind fun r_7=>(asB r_7.1).bind fun b_8=>k (.pointer (some a_1)) (.slice s_2.1 (s_2.2.1) (s_2.2.2)) (.slice (some ⟨2*M.nb.size,0,none⟩) 2 2) (.bool b_4) (.bool (!b_4)) (.bool false) (.slice Y6 l6 y6) (.int .i64 x7) (.pointer (some a_5)) (.slice s_6.1 (s_6.2.1) (s_6.2.2)) (.bool b_8) (.bool (!b_8)) (.bool (!b_8)) r_7.2):=by kernel_rfl
theorem r9_24p9 {Y9:Option Addr} {l9 y9:Nat} {x129:Bool} {M:Mem} {call:CallM} {K:Array Value→Mem→R} :
 segK Try.prog false call (O9 [1,1,1,1,1,1,1,1,0]) 9 6 #[g0,g1,g2,g3,g4,g5,g6,g7,g8,.slice Y9 l9 y9,gA,gB,gC,gD,gE,gF,gG,gH,gI,gJ,gK,gL,gM,gN,gO,gP,gQ,gR,gS,gT,gU,gV,gW,gX,gY,gZ,hA,hB,hC,hD,hE,hF,hG,hH,hI,hJ,hK,hL,hM,hN,hO,hP,hQ,hR,hS,hT,hU,hV,hW,hX,hY,hZ,h0,h1,h2,h3,h4,h5,h6,h7,h8,h9,jA,jB,jC,jD,jE,jF,jG,jH,jI,jJ,jK,jL,jM,jN,jO,jP,jQ,jR,jS,jT,jU,jV,jW,jX,jY,jZ,j0,j1,j2,j3,j4,j5,j6,j7,j8,j9,kA,kB,kC,kD,kE,kF,kG,kH,kI,kJ,kK,kL,kM,kN,kO,kP,kQ,kR,kS,kT,kU,.bool x129,kW,kX,kY,kZ,k0,k1,k2,k3,k4,k5,k6,k7,k8,k9,mA,mB,mC,mD,mE,mF,mG,mH,mI,mJ,mK,mL,mM,mN,mO,mP] M K=withK (fun w129 w130 w131 w132 w133 w134 w135 M=>K #[g0,g1,g2,g3,g4,g5,g6,g7,g8,.slice Y9 l9 y9,gA,gB,gC,gD,gE,gF,gG,gH,gI,gJ,gK,gL,gM,gN,gO,gP,gQ,gR,gS,gT,gU,gV,gW,gX,gY,gZ,hA,hB,hC,hD,hE,hF,hG,hH,hI,hJ,hK,hL,hM,hN,hO,hP,hQ,hR,hS,hT,hU,hV,hW,hX,hY,hZ,h0,h1,h2,h3,h4,h5,h6,h7,h8,h9,jA,jB,jC,jD,jE,jF,jG,jH,jI,jJ,jK,jL,jM,jN,jO,jP,jQ,jR,jS,jT,jU,jV,jW,jX,jY,jZ,j0,j1,j2,j3,j4,j5,j6,j7,j8,j9,kA,kB,kC,kD,kE,kF,kG,kH,kI,kJ,kK,kL,kM,kN,kO,kP,kQ,kR,kS,kT,kU,w129,w130,w131,w132,w133,w134,w135,k2,k3,k4,k5,k6,k7,k8,k9,mA,mB,mC,mD,mE,mF,mG,mH,mI,mJ,mK,mL,mM,mN,mO,mP] M) fun k=>cond x129 ((sliceP Try.prog 45 (.slice Y9 l9 y9) none (some (.int .i64 16)) none).bind fun v_1=>(asS v_1).bind fun s_2=>(call 7 #[.slice s_2.1 (s_2.2.1) (s_2.2.2),.slice (some ⟨2*M.nb.size,0,none⟩) 3 3,.int .i64 1] (M.new (.cells #[.int .u8 1,.int .u8 7,.int .u8 0] 5))).bind fun r_3=>(asB r_3.1).bind fun b_4=>k (.bool true) (.slice Y9 l9 y9) (.slice s_2.1 (s_2.2.1) (s_2.2.2)) (.slice (some ⟨2*M.nb.size,0,none⟩) 3 3) (.bool b_4) (.bool b_4) (.bool b_4) r_3.2) (k (.bool false) undef undef undef undef (.bool false) (.bool false) M):=by kernel_rfl
theorem c9_86:P9 [1,1,1,1,1,1,0,1,0,0,1,0,0,1,1]=.cond (.tmp 119) (P9 [1,1,1,1,1,1,0,1,0,0,1,0,0,1,1,0]) (P9 [1,1,1,1,1,1,0,1,0,0,1,0,0,1,1,1]):=by kernel_rfl
theorem k9_87:P9 [1,1,1,1,1,1,0,1,0,0,1,0,0,1,1,0]=.seq (P9 [1,1,1,1,1,1,0,1,0,0,1,0,0,1,1,0,0]) (P9 [1,1,1,1,1,1,0,1,0,0,1,0,0,1,1,0,1]):=by kernel_rfl
theorem k9_88:P9 [1,1,1,1,1,1,0,1,0,0,1,0,0,1,1,0,0]=.region 22 (O9 [1,1,1,1,1,1,0,1,0,0,1,0,0,1,1,0,0]) false:=by kernel_rfl
theorem r9_22 {M:Mem} {call:CallM} {K:Array Value→Mem→R} :
 opsK Try.prog (fun _=>call) (O9 [1,1,1,1,1,1,0,1,0,0,1,0,0,1,1,0,0]) (O9 [1,1,1,1,1,1,0,1,0,0,1,0,0,1,1,0,0]).toList 0 #[g0,g1,g2,g3,g4,g5,g6,g7,g8,g9,gA,gB,gC,gD,gE,gF,gG,gH,gI,gJ,gK,gL,gM,gN,gO,gP,gQ,gR,gS,gT,gU,gV,gW,gX,gY,gZ,hA,hB,hC,hD,hE,hF,hG,hH,hI,hJ,hK,hL,hM,hN,hO,hP,hQ,hR,hS,hT,hU,hV,hW,hX,hY,hZ,h0,h1,h2,h3,h4,h5,h6,h7,h8,h9,jA,jB,jC,jD,jE,jF,jG,jH,jI,jJ,jK,jL,jM,jN,jO,jP,jQ,jR,jS,jT,jU,jV,jW,jX,jY,jZ,j0,j1,j2,j3,j4,j5,j6,j7,j8,j9,kA,kB,kC,kD,kE,kF,kG,kH,kI,kJ,kK,kL,kM,kN,kO,kP,kQ,kR,kS,kT,kU,kV,kW,kX,kY,kZ,k0,k1,k2,k3,k4,k5,k6,k7,k8,k9,mA,mB,mC,mD,mE,mF,mG,mH,mI,mJ,mK,mL,mM,mN,mO,mP] M K=K #[.bool false,g1,g2,g3,g4,g5,g6,g7,g8,g9,gA,gB,gC,gD,gE,gF,gG,gH,gI,gJ,gK,gL,gM,gN,gO,gP,gQ,gR,gS,gT,gU,gV,gW,gX,gY,gZ,hA,hB,hC,hD,hE,hF,hG,hH,hI,hJ,hK,hL,hM,hN,hO,hP,hQ,hR,hS,hT,hU,hV,hW,hX,hY,hZ,h0,h1,h2,h3,h4,h5,h6,h7,h8,h9,jA,jB,jC,jD,jE,jF,jG,jH,jI,jJ,jK,jL,jM,jN,jO,jP,jQ,jR,jS,jT,jU,jV,jW,jX,jY,jZ,j0,j1,j2,j3,j4,j5,j6,j7,j8,j9,kA,kB,kC,kD,kE,kF,kG,kH,kI,kJ,kK,kL,kM,kN,kO,kP,kQ,kR,kS,kT,kU,kV,kW,kX,kY,kZ,k0,k1,k2,k3,k4,k5,k6,k7,k8,k9,mA,mB,mC,mD,mE,mF,mG,mH,mI,mJ,mK,mL,mM,mN,mO,mP] M:=by kernel_rfl
theorem k9_89:P9 [1,1,1,1,1,1,0,1,0,0,1,0,0,1,1,0,1]=.ret:=by kernel_rfl
theorem k9_90:P9 [1,1,1,1,1,1,0,1,0,0,1,0,0,1,1,1]=.skip:=by kernel_rfl
theorem k9_91:P9 [1,1,1,1,1,1,0,1,0,0,1,1]=.region 15 (O9 [1,1,1,1,1,1,0,1,0,0,1,1]) false:=by kernel_rfl
theorem r9_15 {x7:Int} {M:Mem} {call:CallM} {K:Array Value→Mem→R} :
 opsK Try.prog (fun _=>call) (O9 [1,1,1,1,1,1,0,1,0,0,1,1]) (O9 [1,1,1,1,1,1,0,1,0,0,1,1]).toList 0 #[g0,g1,g2,g3,g4,g5,g6,.int .i64 x7,g8,g9,gA,gB,gC,gD,gE,gF,gG,gH,gI,gJ,gK,gL,gM,gN,gO,gP,gQ,gR,gS,gT,gU,gV,gW,gX,gY,gZ,hA,hB,hC,hD,hE,hF,hG,hH,hI,hJ,hK,hL,hM,hN,hO,hP,hQ,hR,hS,hT,hU,hV,hW,hX,hY,hZ,h0,h1,h2,h3,h4,h5,h6,h7,h8,h9,jA,jB,jC,jD,jE,jF,jG,jH,jI,jJ,jK,jL,jM,jN,jO,jP,jQ,jR,jS,jT,jU,jV,jW,jX,jY,jZ,j0,j1,j2,j3,j4,j5,j6,j7,j8,j9,kA,kB,kC,kD,kE,kF,kG,kH,kI,kJ,kK,kL,kM,kN,kO,kP,kQ,kR,kS,kT,kU,kV,kW,kX,kY,kZ,k0,k1,k2,k3,k4,k5,k6,k7,k8,k9,mA,mB,mC,mD,mE,mF,mG,mH,mI,mJ,mK,mL,mM,mN,mO,mP] M K=K #[g0,g1,g2,g3,g4,g5,g6,.int .i64 (IntKind.i64.wrap (x7+1)),g8,g9,gA,gB,gC,gD,gE,gF,gG,gH,gI,gJ,gK,gL,gM,gN,gO,gP,gQ,gR,gS,gT,gU,gV,gW,gX,gY,gZ,hA,hB,hC,hD,hE,hF,hG,hH,hI,hJ,hK,hL,hM,hN,hO,hP,hQ,hR,hS,hT,hU,hV,hW,hX,hY,hZ,h0,h1,h2,h3,h4,h5,h6,h7,h8,h9,jA,jB,jC,jD,jE,jF,jG,jH,jI,jJ,jK,jL,jM,jN,jO,jP,jQ,jR,jS,.int .i64 x7,.int .i64 (IntKind.i64.wrap (x7+1)),jV,jW,jX,jY,jZ,j0,j1,j2,j3,j4,j5,j6,j7,j8,j9,kA,kB,kC,kD,kE,kF,kG,kH,kI,kJ,kK,kL,kM,kN,kO,kP,kQ,kR,kS,kT,kU,kV,kW,kX,kY,kZ,k0,k1,k2,k3,k4,k5,k6,k7,k8,k9,mA,mB,mC,mD,mE,mF,mG,mH,mI,mJ,mK,mL,mM,mN,mO,mP] M:=by kernel_rfl
theorem r9_24p15 {x135:Bool} {M:Mem} {call:CallM} {K:Array Value→Mem→R} :
 segK Try.prog false call (O9 [1,1,1,1,1,1,1,1,0]) 15 4 #[g0,g1,g2,g3,g4,g5,g6,g7,g8,g9,gA,gB,gC,gD,gE,gF,gG,gH,gI,gJ,gK,gL,gM,gN,gO,gP,gQ,gR,gS,gT,gU,gV,gW,gX,gY,gZ,hA,hB,hC,hD,hE,hF,hG,hH,hI,hJ,hK,hL,hM,hN,hO,hP,hQ,hR,hS,hT,hU,hV,hW,hX,hY,hZ,h0,h1,h2,h3,h4,h5,h6,h7,h8,h9,jA,jB,jC,jD,jE,jF,jG,jH,jI,jJ,jK,jL,jM,jN,jO,jP,jQ,jR,jS,jT,jU,jV,jW,jX,jY,jZ,j0,j1,j2,j3,j4,j5,j6,j7,j8,j9,kA,kB,kC,kD,kE,kF,kG,kH,kI,kJ,kK,kL,kM,kN,kO,kP,kQ,kR,kS,kT,kU,kV,kW,kX,kY,kZ,k0,.bool x135,k2,k3,k4,k5,k6,k7,k8,k9,mA,mB,mC,mD,mE,mF,mG,mH,mI,mJ,mK,mL,mM,mN,mO,mP] M K=withK (fun w135 w136 w137 w138 w139 M=>K #[g0,g1,g2,g3,g4,g5,g6,g7,g8,g9,gA,gB,gC,gD,gE,gF,gG,gH,gI,gJ,gK,gL,gM,gN,gO,gP,gQ,gR,gS,gT,gU,gV,gW,gX,gY,gZ,hA,hB,hC,hD,hE,hF,hG,hH,hI,hJ,hK,hL,hM,hN,hO,hP,hQ,hR,hS,hT,hU,hV,hW,hX,hY,hZ,h0,h1,h2,h3,h4,h5,h6,h7,h8,h9,jA,jB,jC,jD,jE,jF,jG,jH,jI,jJ,jK,jL,jM,jN,jO,jP,jQ,jR,jS,jT,jU,jV,jW,jX,jY,jZ,j0,j1,j2,j3,j4,j5,j6,j7,j8,j9,kA,kB,kC,kD,kE,kF,kG,kH,kI,kJ,kK,kL,kM,kN,kO,kP,kQ,kR,kS,kT,kU,kV,kW,kX,kY,kZ,k0,w135,w136,w137,w138,w139,k6,k7,k8,k9,mA,mB,mC,mD,mE,mF,mG,mH,mI,mJ,mK,mL,mM,mN,mO,mP] M) fun k=>cond x135 ((call 7 #[.slice none 0 0,.slice (some ⟨2*M.nb.size,0,none⟩) 2 2,.int .i64 1] (M.new (.cells #[.int .u8 2,.int .u8 7] 5))).bind fun r_1=>(asB r_1.1).bind fun b_2=>k (.bool true) (.slice (some ⟨2*M.nb.size,0,none⟩) 2 2) (.bool b_2) (.bool b_2) (.bool b_2) r_1.2) (k (.bool false) undef undef (.bool false) (.bool false) M):=by kernel_rfl
theorem r9_24p19 {x139:Bool} {M:Mem} {call:CallM} {K:Array Value→Mem→R} :
 segK Try.prog false call (O9 [1,1,1,1,1,1,1,1,0]) 19 5 #[g0,g1,g2,g3,g4,g5,g6,g7,g8,g9,gA,gB,gC,gD,gE,gF,gG,gH,gI,gJ,gK,gL,gM,gN,gO,gP,gQ,gR,gS,gT,gU,gV,gW,gX,gY,gZ,hA,hB,hC,hD,hE,hF,hG,hH,hI,hJ,hK,hL,hM,hN,hO,hP,hQ,hR,hS,hT,hU,hV,hW,hX,hY,hZ,h0,h1,h2,h3,h4,h5,h6,h7,h8,h9,jA,jB,jC,jD,jE,jF,jG,jH,jI,jJ,jK,jL,jM,jN,jO,jP,jQ,jR,jS,jT,jU,jV,jW,jX,jY,jZ,j0,j1,j2,j3,j4,j5,j6,j7,j8,j9,kA,kB,kC,kD,kE,kF,kG,kH,kI,kJ,kK,kL,kM,kN,kO,kP,kQ,kR,kS,kT,kU,kV,kW,kX,kY,kZ,k0,k1,k2,k3,k4,.bool x139,k6,k7,k8,k9,mA,mB,mC,mD,mE,mF,mG,mH,mI,mJ,mK,mL,mM,mN,mO,mP] M K=withK (fun w139 w140 w141 w142 w143 w144 M=>K #[g0,g1,g2,g3,g4,g5,g6,g7,g8,g9,gA,gB,gC,gD,gE,gF,gG,gH,gI,gJ,gK,gL,gM,gN,gO,gP,gQ,gR,gS,gT,gU,gV,gW,gX,gY,gZ,hA,hB,hC,hD,hE,hF,hG,hH,hI,hJ,hK,hL,hM,hN,hO,hP,hQ,hR,hS,hT,hU,hV,hW,hX,hY,hZ,h0,h1,h2,h3,h4,h5,h6,h7,h8,h9,jA,jB,jC,jD,jE,jF,jG,jH,jI,jJ,jK,jL,jM,jN,jO,jP,jQ,jR,jS,jT,jU,jV,jW,jX,jY,jZ,j0,j1,j2,j3,j4,j5,j6,j7,j8,j9,kA,kB,kC,kD,kE,kF,kG,kH,kI,kJ,kK,kL,kM,kN,kO,kP,kQ,kR,kS,kT,kU,kV,kW,kX,kY,kZ,k0,k1,k2,k3,k4,w139,w140,w141,w142,w143,w144,mB,mC,mD,mE,mF,mG,mH,mI,mJ,mK,mL,mM,mN,mO,mP] M) fun k=>cond x139 ((makeP Try.prog 46 (.int .i64 300) (.int .i64 300) M).bind fun r_1=>(asS r_1.1).bind fun s_2=>(call 7 #[.slice (some ⟨2*r_1.2.nb.size,0,none⟩) 1 1,.slice none 0 0,.int .i64 1] (r_1.2.new (.cells #[.slice s_2.1 (s_2.2.1) (s_2.2.2)] 46))).bind fun r_3=>(asB r_3.1).bind fun b_4=>k (.bool true) (.slice s_2.1 (s_2.2.1) (s_2.2.2)) (.slice (some ⟨2*r_1.2.nb.size,0,none⟩) 1 1) (.bool b_4) (.bool b_4) (.bool b_4) r_3.2) (k (.bool false) undef undef undef (.bool false) (.bool false) M):=by kernel_rfl
theorem r9_24p24 {x144:Bool} {M:Mem} {call:CallM} {K:Array Value→Mem→R} :
 segK Try.prog false call (O9 [1,1,1,1,1,1,1,1,0]) 24 4 #[g0,g1,g2,g3,g4,g5,g6,g7,g8,g9,gA,gB,gC,gD,gE,gF,gG,gH,gI,gJ,gK,gL,gM,gN,gO,gP,gQ,gR,gS,gT,gU,gV,gW,gX,gY,gZ,hA,hB,hC,hD,hE,hF,hG,hH,hI,hJ,hK,hL,hM,hN,hO,hP,hQ,hR,hS,hT,hU,hV,hW,hX,hY,hZ,h0,h1,h2,h3,h4,h5,h6,h7,h8,h9,jA,jB,jC,jD,jE,jF,jG,jH,jI,jJ,jK,jL,jM,jN,jO,jP,jQ,jR,jS,jT,jU,jV,jW,jX,jY,jZ,j0,j1,j2,j3,j4,j5,j6,j7,j8,j9,kA,kB,kC,kD,kE,kF,kG,kH,kI,kJ,kK,kL,kM,kN,kO,kP,kQ,kR,kS,kT,kU,kV,kW,kX,kY,kZ,k0,k1,k2,k3,k4,k5,k6,k7,k8,k9,.bool x144,mB,mC,mD,mE,mF,mG,mH,mI,mJ,mK,mL,mM,mN,mO,mP] M K=withK (fun w144 w145 w146 w147 w148 M=>K #[g0,g1,g2,g3,g4,g5,g6,g7,g8,g9,gA,gB,gC,gD,gE,gF,gG,gH,gI,gJ,gK,gL,gM,gN,gO,gP,gQ,gR,gS,gT,gU,gV,gW,gX,gY,gZ,hA,hB,hC,hD,hE,hF,hG,hH,hI,hJ,hK,hL,hM,hN,hO,hP,hQ,hR,hS,hT,hU,hV,hW,hX,hY,hZ,h0,h1,h2,h3,h4,h5,h6,h7,h8,h9,jA,jB,jC,jD,jE,jF,jG,jH,jI,jJ,jK,jL,jM,jN,jO,jP,jQ,jR,jS,jT,jU,jV,jW,jX,jY,jZ,j0,j1,j2,j3,j4,j5,j6,j7,j8,j9,kA,kB,kC,kD,kE,kF,kG,kH,kI,kJ,kK,kL,kM,kN,kO,kP,kQ,kR,kS,kT,kU,kV,kW,kX,kY,kZ,k0,k1,k2,k3,k4,k5,k6,k7,k8,k9,w144,w145,w146,w147,w148,mF,mG,mH,mI,mJ,mK,mL,mM,mN,mO,mP] M) fun k=>cond x144 ((call 7 #[.slice none 0 0,.slice (some ⟨2*M.nb.size,0,none⟩) 2 2,.int .i64 1] (M.new (.cells #[.int .u8 128,.int .u8 0] 5))).bind fun r_1=>(asB r_1.1).bind fun b_2=>k (.bool true) (.slice (some ⟨2*M.nb.size,0,none⟩) 2 2) (.bool b_2) (.bool b_2) (.bool b_2) r_1.2) (k (.bool false) undef undef (.bool false) (.bool false) M):=by kernel_rfl
theorem r9_24p28 {x148:Bool} {M:Mem} {call:CallM} {K:Array Value→Mem→R} :
 segK Try.prog false call (O9 [1,1,1,1,1,1,1,1,0]) 28 4 #[g0,g1,g2,g3,g4,g5,g6,g7,g8,g9,gA,gB,gC,gD,gE,gF,gG,gH,gI,gJ,gK,gL,gM,gN,gO,gP,gQ,gR,gS,gT,gU,gV,gW,gX,gY,gZ,hA,hB,hC,hD,hE,hF,hG,hH,hI,hJ,hK,hL,hM,hN,hO,hP,hQ,hR,hS,hT,hU,hV,hW,hX,hY,hZ,h0,h1,h2,h3,h4,h5,h6,h7,h8,h9,jA,jB,jC,jD,jE,jF,jG,jH,jI,jJ,jK,jL,jM,jN,jO,jP,jQ,jR,jS,jT,jU,jV,jW,jX,jY,jZ,j0,j1,j2,j3,j4,j5,j6,j7,j8,j9,kA,kB,kC,kD,kE,kF,kG,kH,kI,kJ,kK,kL,kM,kN,kO,kP,kQ,kR,kS,kT,kU,kV,kW,kX,kY,kZ,k0,k1,k2,k3,k4,k5,k6,k7,k8,k9,mA,mB,mC,mD,.bool x148,mF,mG,mH,mI,mJ,mK,mL,mM,mN,mO,mP] M K=withK (fun w148 w149 w150 w151 w152 M=>K #[g0,g1,g2,g3,g4,g5,g6,g7,g8,g9,gA,gB,gC,gD,gE,gF,gG,gH,gI,gJ,gK,gL,gM,gN,gO,gP,gQ,gR,gS,gT,gU,gV,gW,gX,gY,gZ,hA,hB,hC,hD,hE,hF,hG,hH,hI,hJ,hK,hL,hM,hN,hO,hP,hQ,hR,hS,hT,hU,hV,hW,hX,hY,hZ,h0,h1,h2,h3,h4,h5,h6,h7,h8,h9,jA,jB,jC,jD,jE,jF,jG,jH,jI,jJ,jK,jL,jM,jN,jO,jP,jQ,jR,jS,jT,jU,jV,jW,jX,jY,jZ,j0,j1,j2,j3,j4,j5,j6,j7,j8,j9,kA,kB,kC,kD,kE,kF,kG,kH,kI,kJ,kK,kL,kM,kN,kO,kP,kQ,kR,kS,kT,kU,kV,kW,kX,kY,kZ,k0,k1,k2,k3,k4,k5,k6,k7,k8,k9,mA,mB,mC,mD,w148,w149,w150,w151,w152,mJ,mK,mL,mM,mN,mO,mP] M) fun k=>cond x148 ((call 7 #[.slice none 0 0,.slice (some ⟨2*M.nb.size,0,none⟩) 5 5,.int .i64 1] (M.new (.cells #[.int .u8 255,.int .u8 255,.int .u8 255,.int .u8 255,.int .u8 15] 5))).bind fun r_1=>(asB r_1.1).bind fun b_2=>k (.bool true) (.slice (some ⟨2*M.nb.size,0,none⟩) 5 5) (.bool b_2) (.bool b_2) (.bool b_2) r_1.2) (k (.bool false) undef undef (.bool false) (.bool false) M):=by kernel_rfl
theorem r9_24p32 {x152:Bool} {M:Mem} {call:CallM} {K:Array Value→Mem→R} :
 segK Try.prog false call (O9 [1,1,1,1,1,1,1,1,0]) 32 4 #[g0,g1,g2,g3,g4,g5,g6,g7,g8,g9,gA,gB,gC,gD,gE,gF,gG,gH,gI,gJ,gK,gL,gM,gN,gO,gP,gQ,gR,gS,gT,gU,gV,gW,gX,gY,gZ,hA,hB,hC,hD,hE,hF,hG,hH,hI,hJ,hK,hL,hM,hN,hO,hP,hQ,hR,hS,hT,hU,hV,hW,hX,hY,hZ,h0,h1,h2,h3,h4,h5,h6,h7,h8,h9,jA,jB,jC,jD,jE,jF,jG,jH,jI,jJ,jK,jL,jM,jN,jO,jP,jQ,jR,jS,jT,jU,jV,jW,jX,jY,jZ,j0,j1,j2,j3,j4,j5,j6,j7,j8,j9,kA,kB,kC,kD,kE,kF,kG,kH,kI,kJ,kK,kL,kM,kN,kO,kP,kQ,kR,kS,kT,kU,kV,kW,kX,kY,kZ,k0,k1,k2,k3,k4,k5,k6,k7,k8,k9,mA,mB,mC,mD,mE,mF,mG,mH,.bool x152,mJ,mK,mL,mM,mN,mO,mP] M K=withK (fun w152 w153 w154 w155 w156 M=>K #[g0,g1,g2,g3,g4,g5,g6,g7,g8,g9,gA,gB,gC,gD,gE,gF,gG,gH,gI,gJ,gK,gL,gM,gN,gO,gP,gQ,gR,gS,gT,gU,gV,gW,gX,gY,gZ,hA,hB,hC,hD,hE,hF,hG,hH,hI,hJ,hK,hL,hM,hN,hO,hP,hQ,hR,hS,hT,hU,hV,hW,hX,hY,hZ,h0,h1,h2,h3,h4,h5,h6,h7,h8,h9,jA,jB,jC,jD,jE,jF,jG,jH,jI,jJ,jK,jL,jM,jN,jO,jP,jQ,jR,jS,jT,jU,jV,jW,jX,jY,jZ,j0,j1,j2,j3,j4,j5,j6,j7,j8,j9,kA,kB,kC,kD,kE,kF,kG,kH,kI,kJ,kK,kL,kM,kN,kO,kP,kQ,kR,kS,kT,kU,kV,kW,kX,kY,kZ,k0,k1,k2,k3,k4,k5,k6,k7,k8,k9,mA,mB,mC,mD,mE,mF,mG,mH,w152,w153,w154,w155,w156,mN,mO,mP] M) fun k=>cond x152 ((call 7 #[.slice none 0 0,.slice (some ⟨2*M.nb.size,0,none⟩) 1 1,.int .i64 0] (M.new (.cells #[.int .u8 0] 5))).bind fun r_1=>(asB r_1.1).bind fun b_2=>k (.bool true) (.slice (some ⟨2*M.nb.size,0,none⟩) 1 1) (.bool b_2) (.bool b_2) (.bool b_2) r_1.2) (k (.bool false) undef undef (.bool false) (.bool false) M):=by kernel_rfl
theorem r9_24p36 {x156:Bool} {M:Mem} {call:CallM} {K:Array Value→Mem→R} :
 segK Try.prog false call (O9 [1,1,1,1,1,1,1,1,0]) 36 4 #[g0,g1,g2,g3,g4,g5,g6,g7,g8,g9,gA,gB,gC,gD,gE,gF,gG,gH,gI,gJ,gK,gL,gM,gN,gO,gP,gQ,gR,gS,gT,gU,gV,gW,gX,gY,gZ,hA,hB,hC,hD,hE,hF,hG,hH,hI,hJ,hK,hL,hM,hN,hO,hP,hQ,hR,hS,hT,hU,hV,hW,hX,hY,hZ,h0,h1,h2,h3,h4,h5,h6,h7,h8,h9,jA,jB,jC,jD,jE,jF,jG,jH,jI,jJ,jK,jL,jM,jN,jO,jP,jQ,jR,jS,jT,jU,jV,jW,jX,jY,jZ,j0,j1,j2,j3,j4,j5,j6,j7,j8,j9,kA,kB,kC,kD,kE,kF,kG,kH,kI,kJ,kK,kL,kM,kN,kO,kP,kQ,kR,kS,kT,kU,kV,kW,kX,kY,kZ,k0,k1,k2,k3,k4,k5,k6,k7,k8,k9,mA,mB,mC,mD,mE,mF,mG,mH,mI,mJ,mK,mL,.bool x156,mN,mO,mP] M K=withK (fun w0 w156 w157 w158 w159 M=>K #[w0,g1,g2,g3,g4,g5,g6,g7,g8,g9,gA,gB,gC,gD,gE,gF,gG,gH,gI,gJ,gK,gL,gM,gN,gO,gP,gQ,gR,gS,gT,gU,gV,gW,gX,gY,gZ,hA,hB,hC,hD,hE,hF,hG,hH,hI,hJ,hK,hL,hM,hN,hO,hP,hQ,hR,hS,hT,hU,hV,hW,hX,hY,hZ,h0,h1,h2,h3,h4,h5,h6,h7,h8,h9,jA,jB,jC,jD,jE,jF,jG,jH,jI,jJ,jK,jL,jM,jN,jO,jP,jQ,jR,jS,jT,jU,jV,jW,jX,jY,jZ,j0,j1,j2,j3,j4,j5,j6,j7,j8,j9,kA,kB,kC,kD,kE,kF,kG,kH,kI,kJ,kK,kL,kM,kN,kO,kP,kQ,kR,kS,kT,kU,kV,kW,kX,kY,kZ,k0,k1,k2,k3,k4,k5,k6,k7,k8,k9,mA,mB,mC,mD,mE,mF,mG,mH,mI,mJ,mK,mL,w156,w157,w158,w159] M) fun k=>cond x156 ((makeP Try.prog 46 (.int .i64 17) (.int .i64 17) M).bind fun r_1=>(asS r_1.1).bind fun s_2=>(call 7 #[.slice none 0 0,.slice s_2.1 (s_2.2.1) (s_2.2.2),.int .i64 17] r_1.2).bind fun r_3=>(asB r_3.1).bind fun b_4=>k (.bool b_4) (.bool true) (.slice s_2.1 (s_2.2.1) (s_2.2.2)) (.bool b_4) (.bool b_4) r_3.2) (k (.bool false) (.bool false) undef undef (.bool false) M):=by kernel_rfl
theorem k9_92:P9 [1,1,1,1,1,1,1,1,1]=.ret:=by kernel_rfl
noncomputable def S9_1:List Item:=[.code (P9 [1,1,1,0,1,0,0]),.inLoop (P9 [1,1,1,0,1,0,0]),.inBlock 0,.code (P9 [1,1,1,1])]
def A9_1 (Y1:Option Addr) (l1 y1:Nat) (Y2:Option Addr) (l2 y2:Nat) (x3:Int) (M:Mem) (Q:Value→Mem→Prop):Prop:=∀ (g0 g4 g5 g6 g7 g8 g9 gA gB gC gD gE gF gG gH gI gJ gK gL gM gN gO gP gQ gR gS gT gU gV gW gX gY gZ hA hB hC hD hE hF hG hH hI hJ hK hL hM hN hO hP hQ hR hS hT hU hV hW hX hY hZ h0 h1 h2 h3 h4 h5 h6 h7 h8 h9 jA jB jC jD jE jF jG jH jI jJ jK jL jM jN jO jP jQ jR jS jT jU jV jW jX jY jZ j0 j1 j2 j3 j4 j5 j6 j7 j8 j9 kA kB kC kD kE kF kG kH kI kJ kK kL kM kN kO kP kQ kR kS kT kU kV kW kX kY kZ k0 k1 k2 k3 k4 k5 k6 k7 k8 k9 mA mB mC mD mE mF mG mH mI mJ mK mL mM mN mO mP:Value),Rn Try.prog Try.f9 S9_1 #[g0,.slice Y1 l1 y1,.slice Y2 l2 y2,.int .i64 x3,g4,g5,g6,g7,g8,g9,gA,gB,gC,gD,gE,gF,gG,gH,gI,gJ,gK,gL,gM,gN,gO,gP,gQ,gR,gS,gT,gU,gV,gW,gX,gY,gZ,hA,hB,hC,hD,hE,hF,hG,hH,hI,hJ,hK,hL,hM,hN,hO,hP,hQ,hR,hS,hT,hU,hV,hW,hX,hY,hZ,h0,h1,h2,h3,h4,h5,h6,h7,h8,h9,jA,jB,jC,jD,jE,jF,jG,jH,jI,jJ,jK,jL,jM,jN,jO,jP,jQ,jR,jS,jT,jU,jV,jW,jX,jY,jZ,j0,j1,j2,j3,j4,j5,j6,j7,j8,j9,kA,kB,kC,kD,kE,kF,kG,kH,kI,kJ,kK,kL,kM,kN,kO,kP,kQ,kR,kS,kT,kU,kV,kW,kX,kY,kZ,k0,k1,k2,k3,k4,k5,k6,k7,k8,k9,mA,mB,mC,mD,mE,mF,mG,mH,mI,mJ,mK,mL,mM,mN,mO,mP] M Q
noncomputable def S9_2:List Item:=[.code (P9 [1,1,1,0,1,0,0,1,0,0,1,0,0]),.inLoop (P9 [1,1,1,0,1,0,0,1,0,0,1,0,0]),.inBlock 2,.inBlock 1,.code (P9 [1,1,1,0,1,0,0,1,1]),.inLoop (P9 [1,1,1,0,1,0,0]),.inBlock 0,.code (P9 [1,1,1,1])]
def A9_2 (Y1:Option Addr) (l1 y1:Nat) (Y2:Option Addr) (l2 y2:Nat) (x3 x4:Int) (M:Mem) (Q:Value→Mem→Prop):Prop:=∀ (g0 g5 g6 g7 g8 g9 gA gB gC gD gE gF gG gH gI gJ gK gL gM gN gO gP gQ gR gS gT gU gV gW gX gY gZ hA hB hC hD hE hF hG hH hI hJ hK hL hM hN hO hP hQ hR hS hT hU hV hW hX hY hZ h0 h1 h2 h3 h4 h5 h6 h7 h8 h9 jA jB jC jD jE jF jG jH jI jJ jK jL jM jN jO jP jQ jR jS jT jU jV jW jX jY jZ j0 j1 j2 j3 j4 j5 j6 j7 j8 j9 kA kB kC kD kE kF kG kH kI kJ kK kL kM kN kO kP kQ kR kS kT kU kV kW kX kY kZ k0 k1 k2 k3 k4 k5 k6 k7 k8 k9 mA mB mC mD mE mF mG mH mI mJ mK mL mM mN mO mP:Value),Rn Try.prog Try.f9 S9_2 #[g0,.slice Y1 l1 y1,.slice Y2 l2 y2,.int .i64 x3,.int .i64 x4,g5,g6,g7,g8,g9,gA,gB,gC,gD,gE,gF,gG,gH,gI,gJ,gK,gL,gM,gN,gO,gP,gQ,gR,gS,gT,gU,gV,gW,gX,gY,gZ,hA,hB,hC,hD,hE,hF,hG,hH,hI,hJ,hK,hL,hM,hN,hO,hP,hQ,hR,hS,hT,hU,hV,hW,hX,hY,hZ,h0,h1,h2,h3,h4,h5,h6,h7,h8,h9,jA,jB,jC,jD,jE,jF,jG,jH,jI,jJ,jK,jL,jM,jN,jO,jP,jQ,jR,jS,jT,jU,jV,jW,jX,jY,jZ,j0,j1,j2,j3,j4,j5,j6,j7,j8,j9,kA,kB,kC,kD,kE,kF,kG,kH,kI,kJ,kK,kL,kM,kN,kO,kP,kQ,kR,kS,kT,kU,kV,kW,kX,kY,kZ,k0,k1,k2,k3,k4,k5,k6,k7,k8,k9,mA,mB,mC,mD,mE,mF,mG,mH,mI,mJ,mK,mL,mM,mN,mO,mP] M Q
noncomputable def S9_3:List Item:=[.code (P9 [1,1,1,1,1,1,0,1,0,0]),.inLoop (P9 [1,1,1,1,1,1,0,1,0,0]),.inBlock 4,.code (P9 [1,1,1,1,1,1,1])]
def A9_3 (Y6:Option Addr) (l6 y6:Nat) (x7:Int) (M:Mem) (Q:Value→Mem→Prop):Prop:=∀ (g0 g1 g2 g3 g4 g5 g8 g9 gA gB gC gD gE gF gG gH gI gJ gK gL gM gN gO gP gQ gR gS gT gU gV gW gX gY gZ hA hB hC hD hE hF hG hH hI hJ hK hL hM hN hO hP hQ hR hS hT hU hV hW hX hY hZ h0 h1 h2 h3 h4 h5 h6 h7 h8 h9 jA jB jC jD jE jF jG jH jI jJ jK jL jM jN jO jP jQ jR jS jT jU jV jW jX jY jZ j0 j1 j2 j3 j4 j5 j6 j7 j8 j9 kA kB kC kD kE kF kG kH kI kJ kK kL kM kN kO kP kQ kR kS kT kU kV kW kX kY kZ k0 k1 k2 k3 k4 k5 k6 k7 k8 k9 mA mB mC mD mE mF mG mH mI mJ mK mL mM mN mO mP:Value),Rn Try.prog Try.f9 S9_3 #[g0,g1,g2,g3,g4,g5,.slice Y6 l6 y6,.int .i64 x7,g8,g9,gA,gB,gC,gD,gE,gF,gG,gH,gI,gJ,gK,gL,gM,gN,gO,gP,gQ,gR,gS,gT,gU,gV,gW,gX,gY,gZ,hA,hB,hC,hD,hE,hF,hG,hH,hI,hJ,hK,hL,hM,hN,hO,hP,hQ,hR,hS,hT,hU,hV,hW,hX,hY,hZ,h0,h1,h2,h3,h4,h5,h6,h7,h8,h9,jA,jB,jC,jD,jE,jF,jG,jH,jI,jJ,jK,jL,jM,jN,jO,jP,jQ,jR,jS,jT,jU,jV,jW,jX,jY,jZ,j0,j1,j2,j3,j4,j5,j6,j7,j8,j9,kA,kB,kC,kD,kE,kF,kG,kH,kI,kJ,kK,kL,kM,kN,kO,kP,kQ,kR,kS,kT,kU,kV,kW,kX,kY,kZ,k0,k1,k2,k3,k4,k5,k6,k7,k8,k9,mA,mB,mC,mD,mE,mF,mG,mH,mI,mJ,mK,mL,mM,mN,mO,mP] M Q
noncomputable def S9_4:List Item:=[.code (P9 [1,1,1,0,1,0,0,1,0,0,1,0,0,1,0,0,1]),.inBlock 3,.code (P9 [1,1,1,0,1,0,0,1,0,0,1,0,0,1,1]),.inLoop (P9 [1,1,1,0,1,0,0,1,0,0,1,0,0]),.inBlock 2,.inBlock 1,.code (P9 [1,1,1,0,1,0,0,1,1]),.inLoop (P9 [1,1,1,0,1,0,0]),.inBlock 0,.code (P9 [1,1,1,1])]
def A9_4 (Y1:Option Addr) (l1 y1:Nat) (Y2:Option Addr) (l2 y2:Nat) (x3 x4:Int) (x74:Bool) (M:Mem) (Q:Value→Mem→Prop):Prop:=∀ (g0 g5 g6 g7 g8 g9 gA gB gC gD gE gF gG gH gI gJ gK gL gM gN gO gP gQ gR gS gT gU gV gW gX gY gZ hA hB hC hD hE hF hG hH hI hJ hK hL hM hN hO hP hQ hR hS hT hU hV hW hX hY hZ h0 h1 h2 h3 h4 h5 h6 h7 h8 h9 jA jB jD jE jF jG jH jI jJ jK jL jM jN jO jP jQ jR jS jT jU jV jW jX jY jZ j0 j1 j2 j3 j4 j5 j6 j7 j8 j9 kA kB kC kD kE kF kG kH kI kJ kK kL kM kN kO kP kQ kR kS kT kU kV kW kX kY kZ k0 k1 k2 k3 k4 k5 k6 k7 k8 k9 mA mB mC mD mE mF mG mH mI mJ mK mL mM mN mO mP:Value),Rn Try.prog Try.f9 S9_4 #[g0,.slice Y1 l1 y1,.slice Y2 l2 y2,.int .i64 x3,.int .i64 x4,g5,g6,g7,g8,g9,gA,gB,gC,gD,gE,gF,gG,gH,gI,gJ,gK,gL,gM,gN,gO,gP,gQ,gR,gS,gT,gU,gV,gW,gX,gY,gZ,hA,hB,hC,hD,hE,hF,hG,hH,hI,hJ,hK,hL,hM,hN,hO,hP,hQ,hR,hS,hT,hU,hV,hW,hX,hY,hZ,h0,h1,h2,h3,h4,h5,h6,h7,h8,h9,jA,jB,.bool x74,jD,jE,jF,jG,jH,jI,jJ,jK,jL,jM,jN,jO,jP,jQ,jR,jS,jT,jU,jV,jW,jX,jY,jZ,j0,j1,j2,j3,j4,j5,j6,j7,j8,j9,kA,kB,kC,kD,kE,kF,kG,kH,kI,kJ,kK,kL,kM,kN,kO,kP,kQ,kR,kS,kT,kU,kV,kW,kX,kY,kZ,k0,k1,k2,k3,k4,k5,k6,k7,k8,k9,mA,mB,mC,mD,mE,mF,mG,mH,mI,mJ,mK,mL,mM,mN,mO,mP] M Q
noncomputable def S9_5:List Item:=[.code (P9 [1,1,1,1,1,1,0,1,0,0,1,0,0,0,1,0,0]),.inLoop (P9 [1,1,1,1,1,1,0,1,0,0,1,0,0,0,1,0,0]),.inBlock 6,.code (P9 [1,1,1,1,1,1,0,1,0,0,1,0,0,1]),.inBlock 5,.code (P9 [1,1,1,1,1,1,0,1,0,0,1,1]),.inLoop (P9 [1,1,1,1,1,1,0,1,0,0]),.inBlock 4,.code (P9 [1,1,1,1,1,1,1])]
def A9_5 (Y6:Option Addr) (l6 y6:Nat) (x7 x8:Int) (M:Mem) (Q:Value→Mem→Prop):Prop:=∀ (g0 g1 g2 g3 g4 g5 g9 gA gB gC gD gE gF gG gH gI gJ gK gL gM gN gO gP gQ gR gS gT gU gV gW gX gY gZ hA hB hC hD hE hF hG hH hI hJ hK hL hM hN hO hP hQ hR hS hT hU hV hW hX hY hZ h0 h1 h2 h3 h4 h5 h6 h7 h8 h9 jA jB jC jD jE jF jG jH jI jJ jK jL jM jN jO jP jQ jR jS jT jU jV jW jX jY jZ j0 j1 j2 j3 j4 j5 j6 j7 j8 j9 kA kB kC kD kE kF kG kH kI kJ kK kL kM kN kO kP kQ kR kS kT kU kV kW kX kY kZ k0 k1 k2 k3 k4 k5 k6 k7 k8 k9 mA mB mC mD mE mF mG mH mI mJ mK mL mM mN mO mP:Value),Rn Try.prog Try.f9 S9_5 #[g0,g1,g2,g3,g4,g5,.slice Y6 l6 y6,.int .i64 x7,.int .i64 x8,g9,gA,gB,gC,gD,gE,gF,gG,gH,gI,gJ,gK,gL,gM,gN,gO,gP,gQ,gR,gS,gT,gU,gV,gW,gX,gY,gZ,hA,hB,hC,hD,hE,hF,hG,hH,hI,hJ,hK,hL,hM,hN,hO,hP,hQ,hR,hS,hT,hU,hV,hW,hX,hY,hZ,h0,h1,h2,h3,h4,h5,h6,h7,h8,h9,jA,jB,jC,jD,jE,jF,jG,jH,jI,jJ,jK,jL,jM,jN,jO,jP,jQ,jR,jS,jT,jU,jV,jW,jX,jY,jZ,j0,j1,j2,j3,j4,j5,j6,j7,j8,j9,kA,kB,kC,kD,kE,kF,kG,kH,kI,kJ,kK,kL,kM,kN,kO,kP,kQ,kR,kS,kT,kU,kV,kW,kX,kY,kZ,k0,k1,k2,k3,k4,k5,k6,k7,k8,k9,mA,mB,mC,mD,mE,mF,mG,mH,mI,mJ,mK,mL,mM,mN,mO,mP] M Q
noncomputable def S9_6:List Item:=[.code (P9 [1,1,1,1,1,1,1,1,1])]
def A9_6 (Y9:Option Addr) (l9 y9:Nat) (x129:Bool) (M:Mem) (Q:Value→Mem→Prop):Prop:=∀ (g0 g1 g2 g3 g4 g5 g6 g7 g8 gA gB gC gD gE gF gG gH gI gJ gK gL gM gN gO gP gQ gR gS gT gU gV gW gX gY gZ hA hB hC hD hE hF hG hH hI hJ hK hL hM hN hO hP hQ hR hS hT hU hV hW hX hY hZ h0 h1 h2 h3 h4 h5 h6 h7 h8 h9 jA jB jC jD jE jF jG jH jI jJ jK jL jM jN jO jP jQ jR jS jT jU jV jW jX jY jZ j0 j1 j2 j3 j4 j5 j6 j7 j8 j9 kA kB kC kD kE kF kG kH kI kJ kK kL kM kN kO kP kQ kR kS kT kU kW kX kY kZ k0 k1 k2 k3 k4 k5 k6 k7 k8 k9 mA mB mC mD mE mF mG mH mI mJ mK mL mM mN mO mP:Value),Rg Try.prog Try.f9 (O9 [1,1,1,1,1,1,1,1,0]) false 9 S9_6 #[g0,g1,g2,g3,g4,g5,g6,g7,g8,.slice Y9 l9 y9,gA,gB,gC,gD,gE,gF,gG,gH,gI,gJ,gK,gL,gM,gN,gO,gP,gQ,gR,gS,gT,gU,gV,gW,gX,gY,gZ,hA,hB,hC,hD,hE,hF,hG,hH,hI,hJ,hK,hL,hM,hN,hO,hP,hQ,hR,hS,hT,hU,hV,hW,hX,hY,hZ,h0,h1,h2,h3,h4,h5,h6,h7,h8,h9,jA,jB,jC,jD,jE,jF,jG,jH,jI,jJ,jK,jL,jM,jN,jO,jP,jQ,jR,jS,jT,jU,jV,jW,jX,jY,jZ,j0,j1,j2,j3,j4,j5,j6,j7,j8,j9,kA,kB,kC,kD,kE,kF,kG,kH,kI,kJ,kK,kL,kM,kN,kO,kP,kQ,kR,kS,kT,kU,.bool x129,kW,kX,kY,kZ,k0,k1,k2,k3,k4,k5,k6,k7,k8,k9,mA,mB,mC,mD,mE,mF,mG,mH,mI,mJ,mK,mL,mM,mN,mO,mP] M Q
noncomputable def S9_7:List Item:=[.code (P9 [1,1,1,1,1,1,0,1,0,0,1,0,0,1,1]),.inBlock 5,.code (P9 [1,1,1,1,1,1,0,1,0,0,1,1]),.inLoop (P9 [1,1,1,1,1,1,0,1,0,0]),.inBlock 4,.code (P9 [1,1,1,1,1,1,1])]
def A9_7 (Y6:Option Addr) (l6 y6:Nat) (x7:Int) (x119:Bool) (M:Mem) (Q:Value→Mem→Prop):Prop:=∀ (g0 g1 g2 g3 g4 g5 g8 g9 gA gB gC gD gE gF gG gH gI gJ gK gL gM gN gO gP gQ gR gS gT gU gV gW gX gY gZ hA hB hC hD hE hF hG hH hI hJ hK hL hM hN hO hP hQ hR hS hT hU hV hW hX hY hZ h0 h1 h2 h3 h4 h5 h6 h7 h8 h9 jA jB jC jD jE jF jG jH jI jJ jK jL jM jN jO jP jQ jR jS jT jU jV jW jX jY jZ j0 j1 j2 j3 j4 j5 j6 j7 j8 j9 kA kB kC kD kE kF kG kH kI kJ kK kM kN kO kP kQ kR kS kT kU kV kW kX kY kZ k0 k1 k2 k3 k4 k5 k6 k7 k8 k9 mA mB mC mD mE mF mG mH mI mJ mK mL mM mN mO mP:Value),Rn Try.prog Try.f9 S9_7 #[g0,g1,g2,g3,g4,g5,.slice Y6 l6 y6,.int .i64 x7,g8,g9,gA,gB,gC,gD,gE,gF,gG,gH,gI,gJ,gK,gL,gM,gN,gO,gP,gQ,gR,gS,gT,gU,gV,gW,gX,gY,gZ,hA,hB,hC,hD,hE,hF,hG,hH,hI,hJ,hK,hL,hM,hN,hO,hP,hQ,hR,hS,hT,hU,hV,hW,hX,hY,hZ,h0,h1,h2,h3,h4,h5,h6,h7,h8,h9,jA,jB,jC,jD,jE,jF,jG,jH,jI,jJ,jK,jL,jM,jN,jO,jP,jQ,jR,jS,jT,jU,jV,jW,jX,jY,jZ,j0,j1,j2,j3,j4,j5,j6,j7,j8,j9,kA,kB,kC,kD,kE,kF,kG,kH,kI,kJ,kK,.bool x119,kM,kN,kO,kP,kQ,kR,kS,kT,kU,kV,kW,kX,kY,kZ,k0,k1,k2,k3,k4,k5,k6,k7,k8,k9,mA,mB,mC,mD,mE,mF,mG,mH,mI,mJ,mK,mL,mM,mN,mO,mP] M Q
noncomputable def S9_8:List Item:=[.code (P9 [1,1,1,1,1,1,1,1,1])]
def A9_8 (x135:Bool) (M:Mem) (Q:Value→Mem→Prop):Prop:=∀ (g0 g1 g2 g3 g4 g5 g6 g7 g8 g9 gA gB gC gD gE gF gG gH gI gJ gK gL gM gN gO gP gQ gR gS gT gU gV gW gX gY gZ hA hB hC hD hE hF hG hH hI hJ hK hL hM hN hO hP hQ hR hS hT hU hV hW hX hY hZ h0 h1 h2 h3 h4 h5 h6 h7 h8 h9 jA jB jC jD jE jF jG jH jI jJ jK jL jM jN jO jP jQ jR jS jT jU jV jW jX jY jZ j0 j1 j2 j3 j4 j5 j6 j7 j8 j9 kA kB kC kD kE kF kG kH kI kJ kK kL kM kN kO kP kQ kR kS kT kU kV kW kX kY kZ k0 k2 k3 k4 k5 k6 k7 k8 k9 mA mB mC mD mE mF mG mH mI mJ mK mL mM mN mO mP:Value),Rg Try.prog Try.f9 (O9 [1,1,1,1,1,1,1,1,0]) false 15 S9_8 #[g0,g1,g2,g3,g4,g5,g6,g7,g8,g9,gA,gB,gC,gD,gE,gF,gG,gH,gI,gJ,gK,gL,gM,gN,gO,gP,gQ,gR,gS,gT,gU,gV,gW,gX,gY,gZ,hA,hB,hC,hD,hE,hF,hG,hH,hI,hJ,hK,hL,hM,hN,hO,hP,hQ,hR,hS,hT,hU,hV,hW,hX,hY,hZ,h0,h1,h2,h3,h4,h5,h6,h7,h8,h9,jA,jB,jC,jD,jE,jF,jG,jH,jI,jJ,jK,jL,jM,jN,jO,jP,jQ,jR,jS,jT,jU,jV,jW,jX,jY,jZ,j0,j1,j2,j3,j4,j5,j6,j7,j8,j9,kA,kB,kC,kD,kE,kF,kG,kH,kI,kJ,kK,kL,kM,kN,kO,kP,kQ,kR,kS,kT,kU,kV,kW,kX,kY,kZ,k0,.bool x135,k2,k3,k4,k5,k6,k7,k8,k9,mA,mB,mC,mD,mE,mF,mG,mH,mI,mJ,mK,mL,mM,mN,mO,mP] M Q
noncomputable def S9_9:List Item:=[.code (P9 [1,1,1,1,1,1,1,1,1])]
def A9_9 (x139:Bool) (M:Mem) (Q:Value→Mem→Prop):Prop:=∀ (g0 g1 g2 g3 g4 g5 g6 g7 g8 g9 gA gB gC gD gE gF gG gH gI gJ gK gL gM gN gO gP gQ gR gS gT gU gV gW gX gY gZ hA hB hC hD hE hF hG hH hI hJ hK hL hM hN hO hP hQ hR hS hT hU hV hW hX hY hZ h0 h1 h2 h3 h4 h5 h6 h7 h8 h9 jA jB jC jD jE jF jG jH jI jJ jK jL jM jN jO jP jQ jR jS jT jU jV jW jX jY jZ j0 j1 j2 j3 j4 j5 j6 j7 j8 j9 kA kB kC kD kE kF kG kH kI kJ kK kL kM kN kO kP kQ kR kS kT kU kV kW kX kY kZ k0 k1 k2 k3 k4 k6 k7 k8 k9 mA mB mC mD mE mF mG mH mI mJ mK mL mM mN mO mP:Value),Rg Try.prog Try.f9 (O9 [1,1,1,1,1,1,1,1,0]) false 19 S9_9 #[g0,g1,g2,g3,g4,g5,g6,g7,g8,g9,gA,gB,gC,gD,gE,gF,gG,gH,gI,gJ,gK,gL,gM,gN,gO,gP,gQ,gR,gS,gT,gU,gV,gW,gX,gY,gZ,hA,hB,hC,hD,hE,hF,hG,hH,hI,hJ,hK,hL,hM,hN,hO,hP,hQ,hR,hS,hT,hU,hV,hW,hX,hY,hZ,h0,h1,h2,h3,h4,h5,h6,h7,h8,h9,jA,jB,jC,jD,jE,jF,jG,jH,jI,jJ,jK,jL,jM,jN,jO,jP,jQ,jR,jS,jT,jU,jV,jW,jX,jY,jZ,j0,j1,j2,j3,j4,j5,j6,j7,j8,j9,kA,kB,kC,kD,kE,kF,kG,kH,kI,kJ,kK,kL,kM,kN,kO,kP,kQ,kR,kS,kT,kU,kV,kW,kX,kY,kZ,k0,k1,k2,k3,k4,.bool x139,k6,k7,k8,k9,mA,mB,mC,mD,mE,mF,mG,mH,mI,mJ,mK,mL,mM,mN,mO,mP] M Q
noncomputable def S9_10:List Item:=[.code (P9 [1,1,1,1,1,1,1,1,1])]
def A9_10 (x144:Bool) (M:Mem) (Q:Value→Mem→Prop):Prop:=∀ (g0 g1 g2 g3 g4 g5 g6 g7 g8 g9 gA gB gC gD gE gF gG gH gI gJ gK gL gM gN gO gP gQ gR gS gT gU gV gW gX gY gZ hA hB hC hD hE hF hG hH hI hJ hK hL hM hN hO hP hQ hR hS hT hU hV hW hX hY hZ h0 h1 h2 h3 h4 h5 h6 h7 h8 h9 jA jB jC jD jE jF jG jH jI jJ jK jL jM jN jO jP jQ jR jS jT jU jV jW jX jY jZ j0 j1 j2 j3 j4 j5 j6 j7 j8 j9 kA kB kC kD kE kF kG kH kI kJ kK kL kM kN kO kP kQ kR kS kT kU kV kW kX kY kZ k0 k1 k2 k3 k4 k5 k6 k7 k8 k9 mB mC mD mE mF mG mH mI mJ mK mL mM mN mO mP:Value),Rg Try.prog Try.f9 (O9 [1,1,1,1,1,1,1,1,0]) false 24 S9_10 #[g0,g1,g2,g3,g4,g5,g6,g7,g8,g9,gA,gB,gC,gD,gE,gF,gG,gH,gI,gJ,gK,gL,gM,gN,gO,gP,gQ,gR,gS,gT,gU,gV,gW,gX,gY,gZ,hA,hB,hC,hD,hE,hF,hG,hH,hI,hJ,hK,hL,hM,hN,hO,hP,hQ,hR,hS,hT,hU,hV,hW,hX,hY,hZ,h0,h1,h2,h3,h4,h5,h6,h7,h8,h9,jA,jB,jC,jD,jE,jF,jG,jH,jI,jJ,jK,jL,jM,jN,jO,jP,jQ,jR,jS,jT,jU,jV,jW,jX,jY,jZ,j0,j1,j2,j3,j4,j5,j6,j7,j8,j9,kA,kB,kC,kD,kE,kF,kG,kH,kI,kJ,kK,kL,kM,kN,kO,kP,kQ,kR,kS,kT,kU,kV,kW,kX,kY,kZ,k0,k1,k2,k3,k4,k5,k6,k7,k8,k9,.bool x144,mB,mC,mD,mE,mF,mG,mH,mI,mJ,mK,mL,mM,mN,mO,mP] M Q
noncomputable def S9_11:List Item:=[.code (P9 [1,1,1,1,1,1,1,1,1])]
def A9_11 (x148:Bool) (M:Mem) (Q:Value→Mem→Prop):Prop:=∀ (g0 g1 g2 g3 g4 g5 g6 g7 g8 g9 gA gB gC gD gE gF gG gH gI gJ gK gL gM gN gO gP gQ gR gS gT gU gV gW gX gY gZ hA hB hC hD hE hF hG hH hI hJ hK hL hM hN hO hP hQ hR hS hT hU hV hW hX hY hZ h0 h1 h2 h3 h4 h5 h6 h7 h8 h9 jA jB jC jD jE jF jG jH jI jJ jK jL jM jN jO jP jQ jR jS jT jU jV jW jX jY jZ j0 j1 j2 j3 j4 j5 j6 j7 j8 j9 kA kB kC kD kE kF kG kH kI kJ kK kL kM kN kO kP kQ kR kS kT kU kV kW kX kY kZ k0 k1 k2 k3 k4 k5 k6 k7 k8 k9 mA mB mC mD mF mG mH mI mJ mK mL mM mN mO mP:Value),Rg Try.prog Try.f9 (O9 [1,1,1,1,1,1,1,1,0]) false 28 S9_11 #[g0,g1,g2,g3,g4,g5,g6,g7,g8,g9,gA,gB,gC,gD,gE,gF,gG,gH,gI,gJ,gK,gL,gM,gN,gO,gP,gQ,gR,gS,gT,gU,gV,gW,gX,gY,gZ,hA,hB,hC,hD,hE,hF,hG,hH,hI,hJ,hK,hL,hM,hN,hO,hP,hQ,hR,hS,hT,hU,hV,hW,hX,hY,hZ,h0,h1,h2,h3,h4,h5,h6,h7,h8,h9,jA,jB,jC,jD,jE,jF,jG,jH,jI,jJ,jK,jL,jM,jN,jO,jP,jQ,jR,jS,jT,jU,jV,jW,jX,jY,jZ,j0,j1,j2,j3,j4,j5,j6,j7,j8,j9,kA,kB,kC,kD,kE,kF,kG,kH,kI,kJ,kK,kL,kM,kN,kO,kP,kQ,kR,kS,kT,kU,kV,kW,kX,kY,kZ,k0,k1,k2,k3,k4,k5,k6,k7,k8,k9,mA,mB,mC,mD,.bool x148,mF,mG,mH,mI,mJ,mK,mL,mM,mN,mO,mP] M Q
noncomputable def S9_12:List Item:=[.code (P9 [1,1,1,1,1,1,1,1,1])]
def A9_12 (x152:Bool) (M:Mem) (Q:Value→Mem→Prop):Prop:=∀ (g0 g1 g2 g3 g4 g5 g6 g7 g8 g9 gA gB gC gD gE gF gG gH gI gJ gK gL gM gN gO gP gQ gR gS gT gU gV gW gX gY gZ hA hB hC hD hE hF hG hH hI hJ hK hL hM hN hO hP hQ hR hS hT hU hV hW hX hY hZ h0 h1 h2 h3 h4 h5 h6 h7 h8 h9 jA jB jC jD jE jF jG jH jI jJ jK jL jM jN jO jP jQ jR jS jT jU jV jW jX jY jZ j0 j1 j2 j3 j4 j5 j6 j7 j8 j9 kA kB kC kD kE kF kG kH kI kJ kK kL kM kN kO kP kQ kR kS kT kU kV kW kX kY kZ k0 k1 k2 k3 k4 k5 k6 k7 k8 k9 mA mB mC mD mE mF mG mH mJ mK mL mM mN mO mP:Value),Rg Try.prog Try.f9 (O9 [1,1,1,1,1,1,1,1,0]) false 32 S9_12 #[g0,g1,g2,g3,g4,g5,g6,g7,g8,g9,gA,gB,gC,gD,gE,gF,gG,gH,gI,gJ,gK,gL,gM,gN,gO,gP,gQ,gR,gS,gT,gU,gV,gW,gX,gY,gZ,hA,hB,hC,hD,hE,hF,hG,hH,hI,hJ,hK,hL,hM,hN,hO,hP,hQ,hR,hS,hT,hU,hV,hW,hX,hY,hZ,h0,h1,h2,h3,h4,h5,h6,h7,h8,h9,jA,jB,jC,jD,jE,jF,jG,jH,jI,jJ,jK,jL,jM,jN,jO,jP,jQ,jR,jS,jT,jU,jV,jW,jX,jY,jZ,j0,j1,j2,j3,j4,j5,j6,j7,j8,j9,kA,kB,kC,kD,kE,kF,kG,kH,kI,kJ,kK,kL,kM,kN,kO,kP,kQ,kR,kS,kT,kU,kV,kW,kX,kY,kZ,k0,k1,k2,k3,k4,k5,k6,k7,k8,k9,mA,mB,mC,mD,mE,mF,mG,mH,.bool x152,mJ,mK,mL,mM,mN,mO,mP] M Q
noncomputable def S9_13:List Item:=[.code (P9 [1,1,1,1,1,1,1,1,1])]
def A9_13 (x156:Bool) (M:Mem) (Q:Value→Mem→Prop):Prop:=∀ (g0 g1 g2 g3 g4 g5 g6 g7 g8 g9 gA gB gC gD gE gF gG gH gI gJ gK gL gM gN gO gP gQ gR gS gT gU gV gW gX gY gZ hA hB hC hD hE hF hG hH hI hJ hK hL hM hN hO hP hQ hR hS hT hU hV hW hX hY hZ h0 h1 h2 h3 h4 h5 h6 h7 h8 h9 jA jB jC jD jE jF jG jH jI jJ jK jL jM jN jO jP jQ jR jS jT jU jV jW jX jY jZ j0 j1 j2 j3 j4 j5 j6 j7 j8 j9 kA kB kC kD kE kF kG kH kI kJ kK kL kM kN kO kP kQ kR kS kT kU kV kW kX kY kZ k0 k1 k2 k3 k4 k5 k6 k7 k8 k9 mA mB mC mD mE mF mG mH mI mJ mK mL mN mO mP:Value),Rg Try.prog Try.f9 (O9 [1,1,1,1,1,1,1,1,0]) false 36 S9_13 #[g0,g1,g2,g3,g4,g5,g6,g7,g8,g9,gA,gB,gC,gD,gE,gF,gG,gH,gI,gJ,gK,gL,gM,gN,gO,gP,gQ,gR,gS,gT,gU,gV,gW,gX,gY,gZ,hA,hB,hC,hD,hE,hF,hG,hH,hI,hJ,hK,hL,hM,hN,hO,hP,hQ,hR,hS,hT,hU,hV,hW,hX,hY,hZ,h0,h1,h2,h3,h4,h5,h6,h7,h8,h9,jA,jB,jC,jD,jE,jF,jG,jH,jI,jJ,jK,jL,jM,jN,jO,jP,jQ,jR,jS,jT,jU,jV,jW,jX,jY,jZ,j0,j1,j2,j3,j4,j5,j6,j7,j8,j9,kA,kB,kC,kD,kE,kF,kG,kH,kI,kJ,kK,kL,kM,kN,kO,kP,kQ,kR,kS,kT,kU,kV,kW,kX,kY,kZ,k0,k1,k2,k3,k4,k5,k6,k7,k8,k9,mA,mB,mC,mD,mE,mF,mG,mH,mI,mJ,mK,mL,.bool x156,mN,mO,mP] M Q
theorem w9_0 {M:Mem} {Q:Value→Mem→Prop} (H :
 A9_1 (some ⟨2*M.nb.size,0,none⟩) 6 6 (some ⟨2*(M.new (.cells #[.int .i64 130,.int .i64 70,.int .i64 16,.int .i64 16,.int .i64 256,.int .i64 256,.int .i64 15,.int .i64 16,.int .i64 258,.int .i64 16,.int .i64 0,.int .i64 0] 32)).nb.size,0,none⟩) 6 6 0 ((M.new (.cells #[.int .i64 130,.int .i64 70,.int .i64 16,.int .i64 16,.int .i64 256,.int .i64 256,.int .i64 15,.int .i64 16,.int .i64 258,.int .i64 16,.int .i64 0,.int .i64 0] 32)).new (.cells #[.int .i64 64,.int .i64 0,.int .i64 72,.int .i64 72,.int .i64 0,.int .i64 0,.int .i64 0,.int .i64 0,.int .i64 0,.int .i64 0,.int .i64 256,.int .i64 256,.int .i64 0,.int .i64 0,.int .i64 257,.int .i64 1,.int .i64 (-1),.int .i64 0,.int .i64 1,.int .i64 1,.int .i64 256,.int .i64 256,.int .i64 1,.int .i64 1] 35)) Q):
 Cn Try.prog 9 #[] M Q:=by
  refine Cn.of b9 d9 t9 ?_
  refine Rn.seq k9_0 (Rn.region k9_1 (fun call K=>r9_0) (Rch.leaf (Rn.seq k9_2 (Rn.region k9_3 (fun call K=>r9_1) (Rch.leaf (Rn.seq k9_4 (Rn.region k9_5 (fun call K=>r9_2) (Rch.leaf (Rn.seq k9_6 (Rn.seq k9_7 (Rn.region k9_8 (fun call K=>r9_3) ?_)))))))))))
  refine Rch.leaf (Rn.block k9_9 (Rn.loop k9_10 ?_))
  exact H ..
theorem w9_1 {Y1:Option Addr} {l1 y1:Nat} {Y2:Option Addr} {l2 y2:Nat} {x3:Int} {M:Mem} {Q:Value→Mem→Prop} (H :
 ((x3<((l1:Int))→
 A9_2 Y1 l1 y1 Y2 l2 y2 x3 (-1) M Q)∧
 (¬(x3<((l1:Int)))→
 ∃r1',makeP Try.prog 22 (.int .i64 257) (.int .i64 257) M=some r1'∧
 ∃s2',asS r1'.1=some s2'∧
 ∃v3',sliceP Try.prog 22 (.slice s2'.1 s2'.2.1 s2'.2.2) none (some (.int .i64 256)) none=some v3'∧
 ∃s4',asS v3'=some s4'∧
 A9_3 (some ⟨2*(((((((r1'.2.new (.cells #[.int .i64 2,.int .i64 0,.int .i64 1,.int .i64 1] 3)).new (.cells #[.int .i64 2,.int .i64 1] 3)).new (.cells #[.int .i64 1,.int .i64 1] 3)).new (.cells #[.int .i64 (-1)] 3)).new (.cells #[.int .i64 65536] 3)).new (.cells #[.int .i64 65536,.int .i64 1] 3)).new (.cells #[.int .i64 4611686018427387904,.int .i64 4611686018427387904,.int .i64 4611686018427387904] 3)).nb.size,0,none⟩) 10 10 0 ((((((((r1'.2.new (.cells #[.int .i64 2,.int .i64 0,.int .i64 1,.int .i64 1] 3)).new (.cells #[.int .i64 2,.int .i64 1] 3)).new (.cells #[.int .i64 1,.int .i64 1] 3)).new (.cells #[.int .i64 (-1)] 3)).new (.cells #[.int .i64 65536] 3)).new (.cells #[.int .i64 65536,.int .i64 1] 3)).new (.cells #[.int .i64 4611686018427387904,.int .i64 4611686018427387904,.int .i64 4611686018427387904] 3)).new (.cells #[.slice (some ⟨2*r1'.2.nb.size,0,none⟩) 4 4,.slice (some ⟨2*(r1'.2.new (.cells #[.int .i64 2,.int .i64 0,.int .i64 1,.int .i64 1] 3)).nb.size,0,none⟩) 2 2,.slice (some ⟨2*((r1'.2.new (.cells #[.int .i64 2,.int .i64 0,.int .i64 1,.int .i64 1] 3)).new (.cells #[.int .i64 2,.int .i64 1] 3)).nb.size,0,none⟩) 2 2,.slice (some ⟨2*(((r1'.2.new (.cells #[.int .i64 2,.int .i64 0,.int .i64 1,.int .i64 1] 3)).new (.cells #[.int .i64 2,.int .i64 1] 3)).new (.cells #[.int .i64 1,.int .i64 1] 3)).nb.size,0,none⟩) 1 1,.slice s2'.1 s2'.2.1 s2'.2.2,.slice s4'.1 (s4'.2.1) (s4'.2.2),.slice (some ⟨2*((((r1'.2.new (.cells #[.int .i64 2,.int .i64 0,.int .i64 1,.int .i64 1] 3)).new (.cells #[.int .i64 2,.int .i64 1] 3)).new (.cells #[.int .i64 1,.int .i64 1] 3)).new (.cells #[.int .i64 (-1)] 3)).nb.size,0,none⟩) 1 1,.slice (some ⟨2*(((((r1'.2.new (.cells #[.int .i64 2,.int .i64 0,.int .i64 1,.int .i64 1] 3)).new (.cells #[.int .i64 2,.int .i64 1] 3)).new (.cells #[.int .i64 1,.int .i64 1] 3)).new (.cells #[.int .i64 (-1)] 3)).new (.cells #[.int .i64 65536] 3)).nb.size,0,none⟩) 2 2,.slice (some ⟨2*((((((r1'.2.new (.cells #[.int .i64 2,.int .i64 0,.int .i64 1,.int .i64 1] 3)).new (.cells #[.int .i64 2,.int .i64 1] 3)).new (.cells #[.int .i64 1,.int .i64 1] 3)).new (.cells #[.int .i64 (-1)] 3)).new (.cells #[.int .i64 65536] 3)).new (.cells #[.int .i64 65536,.int .i64 1] 3)).nb.size,0,none⟩) 3 3,.slice none 0 0] 22)) Q))):
 A9_1 Y1 l1 y1 Y2 l2 y2 x3 M Q:=by
  iterate 157 intro _
  refine Rn.seq k9_11 (Rn.seq k9_12 (Rn.region k9_13 (fun call K=>r9_4) (Rch.leaf ?_)))
  refine Rn.cnd (v:=decide (x3<((l1:Int)))) ⟨c9_14,rfl,by kernel_rfl⟩ (fun h=>?_) (fun h=>?_)
  · replace H:=H.1 (of_decide_eq_true h)
    refine Rn.skip k9_15 (Rn.seq k9_16 (Rn.block k9_17 (Rn.seq k9_18 (Rn.region k9_19 (fun call K=>r9_6) (Rch.leaf (Rn.block k9_20 (Rn.loop k9_21 ?_)))))))
    exact H ..
  · replace H:=H.2 (of_decide_eq_false h)
    refine Rn.exit k9_22 rfl (Rn.seq k9_23 (Rn.region k9_24 (fun call K=>r9_11) (Rch.ex H fun r1' H=>Rch.ex H fun s2' H=>Rch.leaf (Rn.seq k9_25 (Rn.region k9_26 (fun call K=>r9_12) (Rch.ex H fun v3' H=>Rch.ex H fun s4' H=>Rch.leaf (Rn.seq k9_27 ?_)))))))
    refine Rn.seq k9_28 (Rn.region k9_29 (fun call K=>r9_13) (Rch.leaf (Rn.block k9_30 (Rn.loop k9_31 ?_))))
    exact H ..
theorem w9_2 {Y1:Option Addr} {l1 y1:Nat} {Y2:Option Addr} {l2 y2:Nat} {x3 x4:Int} {M:Mem} {Q:Value→Mem→Prop} (H :
 ((x4<4→
 ∃a5',idxA Y1 l1 2 x3=some a5'∧
 ∃x6',M.intAt .i64 a5'.block a5'.off=some x6'∧
 ∃x7',M.intAt .i64 a5'.block (a5'.off+1)=some x7'∧
 ∃a8',idxA Y2 l2 4 x3=some a8'∧
 ∃x9',M.intAt .i64 a8'.block a8'.off=some x9'∧
 ∃x10',M.intAt .i64 a8'.block (a8'.off+1)=some x10'∧
 ∃x11',M.intAt .i64 a8'.block (a8'.off+2)=some x11'∧
 ∃x12',M.intAt .i64 a8'.block (a8'.off+3)=some x12'∧
 Cn Try.prog 5 #[.agg #[.int .i64 x6',.int .i64 x7'],.agg #[.int .i64 x4,.int .i64 0],.agg #[.int .i64 x9',.int .i64 x10',.int .i64 x11',.int .i64 x12']] M fun v13' N13'=>
 ∃b14',asB v13'=some b14'∧
 (((!b14')=true→
 A9_4 Y1 l1 y1 Y2 l2 y2 x3 x4 true N13' Q)∧
 ((!b14')=false→
 ∃a15',idxA Y1 l1 2 x3=some a15'∧
 ∃x16',N13'.intAt .i64 a15'.block a15'.off=some x16'∧
 ∃x17',N13'.intAt .i64 a15'.block (a15'.off+1)=some x17'∧
 ∃a18',idxA Y2 l2 4 x3=some a18'∧
 ∃x19',N13'.intAt .i64 a18'.block a18'.off=some x19'∧
 ∃x20',N13'.intAt .i64 a18'.block (a18'.off+1)=some x20'∧
 ∃x21',N13'.intAt .i64 a18'.block (a18'.off+2)=some x21'∧
 ∃x22',N13'.intAt .i64 a18'.block (a18'.off+3)=some x22'∧
 Cn Try.prog 5 #[.agg #[.int .i64 x16',.int .i64 x17'],.agg #[.int .i64 0,.int .i64 x4],.agg #[.int .i64 x19',.int .i64 x20',.int .i64 x21',.int .i64 x22']] N13' fun v23' N23'=>
 ∃b24',asB v23'=some b24'∧
 (((!b24')=true→
 A9_4 Y1 l1 y1 Y2 l2 y2 x3 x4 true N23' Q)∧
 ((!b24')=false→
 ∃a25',idxA Y1 l1 2 x3=some a25'∧
 ∃x26',N23'.intAt .i64 a25'.block a25'.off=some x26'∧
 ∃x27',N23'.intAt .i64 a25'.block (a25'.off+1)=some x27'∧
 ∃a28',idxA Y2 l2 4 x3=some a28'∧
 ∃x29',N23'.intAt .i64 a28'.block a28'.off=some x29'∧
 ∃x30',N23'.intAt .i64 a28'.block (a28'.off+1)=some x30'∧
 ∃x31',N23'.intAt .i64 a28'.block (a28'.off+2)=some x31'∧
 ∃x32',N23'.intAt .i64 a28'.block (a28'.off+3)=some x32'∧
 Cn Try.prog 5 #[.agg #[.int .i64 x26',.int .i64 x27'],.agg #[.int .i64 x4,.int .i64 x4],.agg #[.int .i64 x29',.int .i64 x30',.int .i64 x31',.int .i64 x32']] N23' fun v33' N33'=>
 ∃b34',asB v33'=some b34'∧
 A9_4 Y1 l1 y1 Y2 l2 y2 x3 x4 (!b34') N33' Q)))))∧
 (¬(x4<4)→
 A9_1 Y1 l1 y1 Y2 l2 y2 (IntKind.i64.wrap (x3+1)) M Q))):
 A9_2 Y1 l1 y1 Y2 l2 y2 x3 x4 M Q:=by
  iterate 156 intro _
  refine Rn.seq k9_32 (Rn.seq k9_33 (Rn.region k9_34 (fun call K=>r9_7) (Rch.leaf ?_)))
  refine Rn.cnd (v:=decide (x4<4)) ⟨c9_35,rfl,by kernel_rfl⟩ (fun h=>?_) (fun h=>?_)
  · replace H:=H.1 (of_decide_eq_true h)
    refine Rn.skip k9_36 (Rn.seq k9_37 (Rn.block k9_38 (Rn.seq k9_39 (Rn.regionD k9_40 (fun call K=>r9_9) (Rch.ex H fun a5' H=>Rch.ex H fun x6' H=>Rch.ex H fun x7' H=>Rch.ex H fun a8' H=>Rch.ex H fun x9' H=>Rch.ex H fun x10' H=>Rch.ex H fun x11' H=>?_)))))
    refine Rch.ex H fun x12' H=>Rch.call H fun v13' N13' H=>Rch.ex H fun b14' H=>?_
    refine Rch.cB (fun h=>?_) (fun h=>?_)
    · replace H:=H.1 (h)
      refine Rch.leaf ?_
      exact H ..
    · replace H:=H.2 (h)
      refine Rch.ex H fun a15' H=>Rch.ex H fun x16' H=>Rch.ex H fun x17' H=>Rch.ex H fun a18' H=>Rch.ex H fun x19' H=>Rch.ex H fun x20' H=>Rch.ex H fun x21' H=>Rch.ex H fun x22' H=>Rch.call H fun v23' N23' H=>Rch.ex H fun b24' H=>?_
      refine Rch.cB (fun h=>?_) (fun h=>?_)
      · replace H:=H.1 (h)
        refine Rch.leaf ?_
        exact H ..
      · replace H:=H.2 (h)
        refine Rch.ex H fun a25' H=>Rch.ex H fun x26' H=>Rch.ex H fun x27' H=>Rch.ex H fun a28' H=>Rch.ex H fun x29' H=>Rch.ex H fun x30' H=>Rch.ex H fun x31' H=>Rch.ex H fun x32' H=>Rch.call H fun v33' N33' H=>Rch.ex H fun b34' H=>Rch.leaf ?_
        exact H ..
  · replace H:=H.2 (of_decide_eq_false h)
    refine Rn.exit k9_41 rfl (Rn.blk (Rn.region k9_42 (fun call K=>r9_5) (Rch.leaf (Rn.lp ?_))))
    exact H ..
theorem w9_3 {Y6:Option Addr} {l6 y6:Nat} {x7:Int} {M:Mem} {Q:Value→Mem→Prop} (H :
 ((x7<((l6:Int))→
 A9_5 Y6 l6 y6 x7 (-1) M Q)∧
 (¬(x7<((l6:Int)))→
 ∃r35',makeP Try.prog 45 (.int .i64 17) (.int .i64 17) M=some r35'∧
 ∃s36',asS r35'.1=some s36'∧
 Cn Try.prog 14 #[] r35'.2 fun v37' N37'=>
 ∃b38',asB v37'=some b38'∧
 ((b38'=true→
 Cn Try.prog 7 #[.slice s36'.1 s36'.2.1 s36'.2.2,.slice (some ⟨2*N37'.nb.size,0,none⟩) 3 3,.int .i64 2] (N37'.new (.cells #[.int .u8 1,.int .u8 7,.int .u8 0] 5)) fun v39' N39'=>
 ∃b40',asB v39'=some b40'∧
 A9_6 s36'.1 s36'.2.1 s36'.2.2 b40' N39' Q)∧
 (b38'=false→
 A9_6 s36'.1 s36'.2.1 s36'.2.2 false N37' Q))))):
 A9_3 Y6 l6 y6 x7 M Q:=by
  iterate 158 intro _
  refine Rn.seq k9_43 (Rn.seq k9_44 (Rn.region k9_45 (fun call K=>r9_14) (Rch.leaf ?_)))
  refine Rn.cnd (v:=decide (x7<((l6:Int)))) ⟨c9_46,rfl,by kernel_rfl⟩ (fun h=>?_) (fun h=>?_)
  · replace H:=H.1 (of_decide_eq_true h)
    refine Rn.skip k9_47 (Rn.seq k9_48 (Rn.block k9_49 (Rn.seq k9_50 (Rn.seq k9_51 (Rn.region k9_52 (fun call K=>r9_16) (Rch.leaf (Rn.block k9_53 (Rn.loop k9_54 ?_))))))))
    exact H ..
  · replace H:=H.2 (of_decide_eq_false h)
    refine Rn.exit k9_55 rfl (Rn.seq k9_56 (Rn.region k9_57 (fun call K=>r9_23) (Rch.ex H fun r35' H=>Rch.ex H fun s36' H=>Rch.leaf (Rn.seq k9_58 (Rn.regionC k9_60 (Rg.step (d:=4) (j:=4) (fun call K=>r9_24p0) rfl rfl (Rch.call H fun v37' N37' H=>Rch.ex H fun b38' H=>Rch.rest ?_)))))))
    refine Rg.step (d:=5) (j:=9) (fun call K=>r9_24p4) rfl rfl ?_
    refine Rch.cB (fun h=>?_) (fun h=>?_)
    · replace H:=H.1 (h)
      refine Rch.call H fun v39' N39' H=>Rch.ex H fun b40' H=>Rch.rest ?_
      exact H ..
    · replace H:=H.2 (h)
      refine Rch.rest ?_
      exact H ..
theorem w9_4 {Y1:Option Addr} {l1 y1:Nat} {Y2:Option Addr} {l2 y2:Nat} {x3 x4:Int} {x74:Bool} {M:Mem} {Q:Value→Mem→Prop} (H :
 ((x74=true→
 Q (.bool false) M)∧
 (x74=false→
 A9_2 Y1 l1 y1 Y2 l2 y2 x3 (IntKind.i64.wrap (x4+1)) M Q))):
 A9_4 Y1 l1 y1 Y2 l2 y2 x3 x4 x74 M Q:=by
  iterate 155 intro _
  refine Rn.cnd (v:=x74) ⟨c9_61,rfl,by kernel_rfl⟩ (fun h=>?_) (fun h=>?_)
  · replace H:=H.1 (h)
    refine Rn.seq k9_62 (Rn.region k9_63 (fun call K=>r9_10) (Rch.leaf ?_))
    exact Rn.ret k9_64 e9 H
  · replace H:=H.2 (h)
    refine Rn.skip k9_66 (Rn.blk (Rn.region k9_67 (fun call K=>r9_8) (Rch.leaf (Rn.lp ?_))))
    exact H ..
theorem w9_5 {Y6:Option Addr} {l6 y6:Nat} {x7 x8:Int} {M:Mem} {Q:Value→Mem→Prop} (H :
 ((x8<3→
 ∃a41',idxA Y6 l6 1 x7=some a41'∧
 ∃s42',M.slAt a41'.block a41'.off=some s42'∧
 Cn Try.prog 3 #[.slice s42'.1 (s42'.2.1) (s42'.2.2),.int .i64 x8,.slice (some ⟨2*M.nb.size,0,none⟩) 4 4] (M.new (.cells #[.int .i64 1,.int .i64 1,.int .i64 0,.int .i64 (-5)] 3)) fun v43' N43'=>
 ∃b44',asB v43'=some b44'∧
 (((!b44')=true→
 Q (.bool false) N43')∧
 ((!b44')=false→
 A9_5 Y6 l6 y6 x7 (IntKind.i64.wrap (x8+1)) N43' Q)))∧
 (¬(x8<3)→
 ∃a45',idxA Y6 l6 1 x7=some a45'∧
 ∃s46',M.slAt a45'.block a45'.off=some s46'∧
 Cn Try.prog 3 #[.slice s46'.1 (s46'.2.1) (s46'.2.2),.int .i64 64,.slice (some ⟨2*M.nb.size,0,none⟩) 2 2] (M.new (.cells #[.int .i64 4611686018427387904,.int .i64 (-9223372036854775808)] 3)) fun v47' N47'=>
 ∃b48',asB v47'=some b48'∧
 (((!b48')=true→
 A9_7 Y6 l6 y6 x7 true N47' Q)∧
 ((!b48')=false→
 ∃a49',idxA Y6 l6 1 x7=some a49'∧
 ∃s50',N47'.slAt a49'.block a49'.off=some s50'∧
 Cn Try.prog 3 #[.slice s50'.1 (s50'.2.1) (s50'.2.2),.int .i64 65,.slice none 0 0] N47' fun v51' N51'=>
 ∃b52',asB v51'=some b52'∧
 A9_7 Y6 l6 y6 x7 (!b52') N51' Q))))):
 A9_5 Y6 l6 y6 x7 x8 M Q:=by
  iterate 157 intro _
  refine Rn.seq k9_68 (Rn.seq k9_69 (Rn.region k9_70 (fun call K=>r9_17) (Rch.leaf ?_)))
  refine Rn.cnd (v:=decide (x8<3)) ⟨c9_71,rfl,by kernel_rfl⟩ (fun h=>?_) (fun h=>?_)
  · replace H:=H.1 (of_decide_eq_true h)
    refine Rn.skip k9_72 (Rn.seq k9_73 (Rn.block k9_74 (Rn.seq k9_75 (Rn.region k9_76 (fun call K=>r9_19) (Rch.ex H fun a41' H=>Rch.ex H fun s42' H=>Rch.call H fun v43' N43' H=>Rch.ex H fun b44' H=>Rch.leaf ?_)))))
    refine Rn.cnd (v:=!b44') ⟨c9_77,rfl,by kernel_rfl⟩ (fun h=>?_) (fun h=>?_)
    · replace H:=H.1 (h)
      refine Rn.seq k9_78 (Rn.region k9_79 (fun call K=>r9_20) (Rch.leaf ?_))
      exact Rn.ret k9_80 e9 H
    · replace H:=H.2 (h)
      refine Rn.skip k9_81 (Rn.blk (Rn.region k9_82 (fun call K=>r9_18) (Rch.leaf (Rn.lp ?_))))
      exact H ..
  · replace H:=H.2 (of_decide_eq_false h)
    refine Rn.exit k9_83 rfl (Rn.seq k9_84 (Rn.region k9_85 (fun call K=>r9_21) (Rch.ex H fun a45' H=>Rch.ex H fun s46' H=>Rch.call H fun v47' N47' H=>Rch.ex H fun b48' H=>?_)))
    refine Rch.cB (fun h=>?_) (fun h=>?_)
    · replace H:=H.1 (h)
      refine Rch.leaf ?_
      exact H ..
    · replace H:=H.2 (h)
      refine Rch.ex H fun a49' H=>Rch.ex H fun s50' H=>Rch.call H fun v51' N51' H=>Rch.ex H fun b52' H=>Rch.leaf ?_
      exact H ..
theorem w9_6 {Y9:Option Addr} {l9 y9:Nat} {x129:Bool} {M:Mem} {Q:Value→Mem→Prop} (H :
 ((x129=true→
 ∃v53',sliceP Try.prog 45 (.slice Y9 l9 y9) none (some (.int .i64 16)) none=some v53'∧
 ∃s54',asS v53'=some s54'∧
 Cn Try.prog 7 #[.slice s54'.1 (s54'.2.1) (s54'.2.2),.slice (some ⟨2*M.nb.size,0,none⟩) 3 3,.int .i64 1] (M.new (.cells #[.int .u8 1,.int .u8 7,.int .u8 0] 5)) fun v55' N55'=>
 ∃b56',asB v55'=some b56'∧
 A9_8 b56' N55' Q)∧
 (x129=false→
 A9_8 false M Q))):
 A9_6 Y9 l9 y9 x129 M Q:=by
  iterate 158 intro _
  refine Rg.step (d:=6) (j:=15) (fun call K=>r9_24p9) rfl rfl ?_
  refine Rch.cB (fun h=>?_) (fun h=>?_)
  · replace H:=H.1 (h)
    refine Rch.ex H fun v53' H=>Rch.ex H fun s54' H=>Rch.call H fun v55' N55' H=>Rch.ex H fun b56' H=>Rch.rest ?_
    exact H ..
  · replace H:=H.2 (h)
    refine Rch.rest ?_
    exact H ..
theorem w9_7 {Y6:Option Addr} {l6 y6:Nat} {x7:Int} {x119:Bool} {M:Mem} {Q:Value→Mem→Prop} (H :
 ((x119=true→
 Q (.bool false) M)∧
 (x119=false→
 A9_3 Y6 l6 y6 (IntKind.i64.wrap (x7+1)) M Q))):
 A9_7 Y6 l6 y6 x7 x119 M Q:=by
  iterate 157 intro _
  refine Rn.cnd (v:=x119) ⟨c9_86,rfl,by kernel_rfl⟩ (fun h=>?_) (fun h=>?_)
  · replace H:=H.1 (h)
    refine Rn.seq k9_87 (Rn.region k9_88 (fun call K=>r9_22) (Rch.leaf ?_))
    exact Rn.ret k9_89 e9 H
  · replace H:=H.2 (h)
    refine Rn.skip k9_90 (Rn.blk (Rn.region k9_91 (fun call K=>r9_15) (Rch.leaf (Rn.lp ?_))))
    exact H ..
theorem w9_8 {x135:Bool} {M:Mem} {Q:Value→Mem→Prop} (H :
 ((x135=true→
 Cn Try.prog 7 #[.slice none 0 0,.slice (some ⟨2*M.nb.size,0,none⟩) 2 2,.int .i64 1] (M.new (.cells #[.int .u8 2,.int .u8 7] 5)) fun v57' N57'=>
 ∃b58',asB v57'=some b58'∧
 A9_9 b58' N57' Q)∧
 (x135=false→
 A9_9 false M Q))):
 A9_8 x135 M Q:=by
  iterate 159 intro _
  refine Rg.step (d:=4) (j:=19) (fun call K=>r9_24p15) rfl rfl ?_
  refine Rch.cB (fun h=>?_) (fun h=>?_)
  · replace H:=H.1 (h)
    refine Rch.call H fun v57' N57' H=>Rch.ex H fun b58' H=>Rch.rest ?_
    exact H ..
  · replace H:=H.2 (h)
    refine Rch.rest ?_
    exact H ..
theorem w9_9 {x139:Bool} {M:Mem} {Q:Value→Mem→Prop} (H :
 ((x139=true→
 ∃r59',makeP Try.prog 46 (.int .i64 300) (.int .i64 300) M=some r59'∧
 ∃s60',asS r59'.1=some s60'∧
 Cn Try.prog 7 #[.slice (some ⟨2*r59'.2.nb.size,0,none⟩) 1 1,.slice none 0 0,.int .i64 1] (r59'.2.new (.cells #[.slice s60'.1 (s60'.2.1) (s60'.2.2)] 46)) fun v61' N61'=>
 ∃b62',asB v61'=some b62'∧
 A9_10 b62' N61' Q)∧
 (x139=false→
 A9_10 false M Q))):
 A9_9 x139 M Q:=by
  iterate 159 intro _
  refine Rg.step (d:=5) (j:=24) (fun call K=>r9_24p19) rfl rfl ?_
  refine Rch.cB (fun h=>?_) (fun h=>?_)
  · replace H:=H.1 (h)
    refine Rch.ex H fun r59' H=>Rch.ex H fun s60' H=>Rch.call H fun v61' N61' H=>Rch.ex H fun b62' H=>Rch.rest ?_
    exact H ..
  · replace H:=H.2 (h)
    refine Rch.rest ?_
    exact H ..
theorem w9_10 {x144:Bool} {M:Mem} {Q:Value→Mem→Prop} (H :
 ((x144=true→
 Cn Try.prog 7 #[.slice none 0 0,.slice (some ⟨2*M.nb.size,0,none⟩) 2 2,.int .i64 1] (M.new (.cells #[.int .u8 128,.int .u8 0] 5)) fun v63' N63'=>
 ∃b64',asB v63'=some b64'∧
 A9_11 b64' N63' Q)∧
 (x144=false→
 A9_11 false M Q))):
 A9_10 x144 M Q:=by
  iterate 159 intro _
  refine Rg.step (d:=4) (j:=28) (fun call K=>r9_24p24) rfl rfl ?_
  refine Rch.cB (fun h=>?_) (fun h=>?_)
  · replace H:=H.1 (h)
    refine Rch.call H fun v63' N63' H=>Rch.ex H fun b64' H=>Rch.rest ?_
    exact H ..
  · replace H:=H.2 (h)
    refine Rch.rest ?_
    exact H ..
theorem w9_11 {x148:Bool} {M:Mem} {Q:Value→Mem→Prop} (H :
 ((x148=true→
 Cn Try.prog 7 #[.slice none 0 0,.slice (some ⟨2*M.nb.size,0,none⟩) 5 5,.int .i64 1] (M.new (.cells #[.int .u8 255,.int .u8 255,.int .u8 255,.int .u8 255,.int .u8 15] 5)) fun v65' N65'=>
 ∃b66',asB v65'=some b66'∧
 A9_12 b66' N65' Q)∧
 (x148=false→
 A9_12 false M Q))):
 A9_11 x148 M Q:=by
  iterate 159 intro _
  refine Rg.step (d:=4) (j:=32) (fun call K=>r9_24p28) rfl rfl ?_
  refine Rch.cB (fun h=>?_) (fun h=>?_)
  · replace H:=H.1 (h)
    refine Rch.call H fun v65' N65' H=>Rch.ex H fun b66' H=>Rch.rest ?_
    exact H ..
  · replace H:=H.2 (h)
    refine Rch.rest ?_
    exact H ..
theorem w9_12 {x152:Bool} {M:Mem} {Q:Value→Mem→Prop} (H :
 ((x152=true→
 Cn Try.prog 7 #[.slice none 0 0,.slice (some ⟨2*M.nb.size,0,none⟩) 1 1,.int .i64 0] (M.new (.cells #[.int .u8 0] 5)) fun v67' N67'=>
 ∃b68',asB v67'=some b68'∧
 A9_13 b68' N67' Q)∧
 (x152=false→
 A9_13 false M Q))):
 A9_12 x152 M Q:=by
  iterate 159 intro _
  refine Rg.step (d:=4) (j:=36) (fun call K=>r9_24p32) rfl rfl ?_
  refine Rch.cB (fun h=>?_) (fun h=>?_)
  · replace H:=H.1 (h)
    refine Rch.call H fun v67' N67' H=>Rch.ex H fun b68' H=>Rch.rest ?_
    exact H ..
  · replace H:=H.2 (h)
    refine Rch.rest ?_
    exact H ..
theorem w9_13 {x156:Bool} {M:Mem} {Q:Value→Mem→Prop} (H :
 ((x156=true→
 ∃r69',makeP Try.prog 46 (.int .i64 17) (.int .i64 17) M=some r69'∧
 ∃s70',asS r69'.1=some s70'∧
 Cn Try.prog 7 #[.slice none 0 0,.slice s70'.1 (s70'.2.1) (s70'.2.2),.int .i64 17] r69'.2 fun v71' N71'=>
 ∃b72',asB v71'=some b72'∧
 Q (.bool b72') N71')∧
 (x156=false→
 Q (.bool false) M))):
 A9_13 x156 M Q:=by
  iterate 159 intro _
  refine Rg.step (d:=4) (j:=40) (fun call K=>r9_24p36) rfl rfl ?_
  refine Rch.cB (fun h=>?_) (fun h=>?_)
  · replace H:=H.1 (h)
    refine Rch.ex H fun r69' H=>Rch.ex H fun s70' H=>Rch.call H fun v71' N71' H=>Rch.ex H fun b72' H=>Rch.rest (Rg.done rfl ?_)
    exact Rn.ret k9_92 e9 H
  · replace H:=H.2 (h)
    refine Rch.rest (Rg.done rfl ?_)
    exact Rn.ret k9_92 e9 H
end Go.Zu
