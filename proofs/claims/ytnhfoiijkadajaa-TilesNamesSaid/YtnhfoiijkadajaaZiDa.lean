/- The functions' walks: for each function and each loop a rule of what it comes to. Printed by zw.py. -/
import Derived.Test.YtnhfoiijkadajaaProg
import Derived.Test.YtnhfoiijkadajaaZeA
set_option linter.unusedVariables false
set_option maxRecDepth 100000
namespace Go.Zu
open Go Go.Sim Go.Proofs
variable {g0 g1 g2 g3 g4 g5 g6 g7 g8 g9 gA gB gC gD gE gF gG gH gI gJ gK gL gM gN gO gP gQ gR gS gT gU gV gW gX gY gZ hA hB hC hD hE hF hG hH hI hJ hK hL hM hN hO hP hQ hR hS hT hU hV hW hX hY hZ h0 h1 h2 h3 h4 h5 h6 h7 h8 h9 jA jB jC jD jE jF jG jH jI jJ jK jL jM jN jO jP jQ jR jS jT jU jV jW jX jY jZ j0:Value}
noncomputable abbrev P7 (p:List Nat):Code:=subC (codeOf Try.f7) p
noncomputable abbrev O7 (p:List Nat):Array Oper:=opsOf (subC (codeOf Try.f7) p)
theorem b7:Try.prog.funcs[7]?=some Try.f7∧(Orc.tab Try.prog).lookup 7=none:=⟨by kernel_rfl,by kernel_rfl⟩
theorem d7:Try.f7.body=some (P7 []):=by kernel_rfl
theorem t7 {Y0:Option Addr} {l0 y0:Nat} {Y1:Option Addr} {l1 y1:Nat} {x2:Int}:#[.slice Y0 l0 y0,.slice Y1 l1 y1,.int .i64 x2] ++ Array.replicate (Try.f7.ntmps-(#[.slice Y0 l0 y0,.slice Y1 l1 y1,.int .i64 x2]:Array Value).size) undef=#[.slice Y0 l0 y0,.slice Y1 l1 y1,.int .i64 x2,undef,undef,undef,undef,undef,undef,undef,undef,undef,undef,undef,undef,undef,undef,undef,undef,undef,undef,undef,undef,undef,undef,undef,undef,undef,undef,undef,undef,undef,undef,undef,undef,undef,undef,undef,undef,undef,undef,undef,undef,undef,undef,undef,undef,undef,undef,undef,undef,undef,undef,undef,undef,undef,undef,undef,undef,undef,undef,undef,undef,undef,undef,undef,undef,undef,undef,undef,undef,undef,undef,undef,undef,undef,undef,undef,undef,undef,undef,undef,undef,undef,undef,undef,undef,undef,undef,undef,undef,undef,undef,undef,undef,undef,undef,undef,undef]:=by kernel_rfl
theorem k7_0:P7 []=.seq (P7 [0]) (P7 [1]):=by kernel_rfl
theorem k7_1:P7 [0]=.region 0 (O7 [0]) false:=by kernel_rfl
theorem r7_0 {M:Mem} {call:CallM} {K:Array Value→Mem→R} :
 opsK Try.prog (fun _=>call) (O7 [0]) (O7 [0]).toList 0 #[g0,g1,g2,g3,g4,g5,g6,g7,g8,g9,gA,gB,gC,gD,gE,gF,gG,gH,gI,gJ,gK,gL,gM,gN,gO,gP,gQ,gR,gS,gT,gU,gV,gW,gX,gY,gZ,hA,hB,hC,hD,hE,hF,hG,hH,hI,hJ,hK,hL,hM,hN,hO,hP,hQ,hR,hS,hT,hU,hV,hW,hX,hY,hZ,h0,h1,h2,h3,h4,h5,h6,h7,h8,h9,jA,jB,jC,jD,jE,jF,jG,jH,jI,jJ,jK,jL,jM,jN,jO,jP,jQ,jR,jS,jT,jU,jV,jW,jX,jY,jZ,j0] M K=K #[g0,g1,g2,g3,g4,g5,.bool false,g7,g8,g9,gA,gB,gC,gD,gE,gF,gG,gH,gI,gJ,gK,gL,gM,gN,gO,gP,gQ,gR,gS,gT,gU,gV,gW,gX,gY,gZ,hA,hB,hC,hD,hE,hF,hG,hH,hI,hJ,hK,hL,hM,hN,hO,hP,hQ,hR,hS,hT,hU,hV,hW,hX,hY,hZ,h0,h1,h2,h3,h4,h5,h6,h7,h8,h9,jA,jB,jC,jD,jE,jF,jG,jH,jI,jJ,jK,jL,jM,jN,jO,jP,jQ,jR,jS,jT,jU,jV,jW,jX,jY,jZ,j0] M:=by kernel_rfl
theorem k7_2:P7 [1]=.seq (P7 [1,0]) (P7 [1,1]):=by kernel_rfl
theorem k7_3:P7 [1,0]=.region 1 (O7 [1,0]) false:=by kernel_rfl
theorem r7_1 {M:Mem} {call:CallM} {K:Array Value→Mem→R} :
 opsK Try.prog (fun _=>call) (O7 [1,0]) (O7 [1,0]).toList 0 #[g0,g1,g2,g3,g4,g5,g6,g7,g8,g9,gA,gB,gC,gD,gE,gF,gG,gH,gI,gJ,gK,gL,gM,gN,gO,gP,gQ,gR,gS,gT,gU,gV,gW,gX,gY,gZ,hA,hB,hC,hD,hE,hF,hG,hH,hI,hJ,hK,hL,hM,hN,hO,hP,hQ,hR,hS,hT,hU,hV,hW,hX,hY,hZ,h0,h1,h2,h3,h4,h5,h6,h7,h8,h9,jA,jB,jC,jD,jE,jF,jG,jH,jI,jJ,jK,jL,jM,jN,jO,jP,jQ,jR,jS,jT,jU,jV,jW,jX,jY,jZ,j0] M K=K #[g0,g1,g2,g3,g4,g5,g6,.slice none 0 0,g8,g9,gA,gB,gC,gD,gE,gF,gG,gH,gI,gJ,gK,gL,gM,gN,gO,gP,gQ,gR,gS,gT,gU,gV,gW,gX,gY,gZ,hA,hB,hC,hD,hE,hF,hG,hH,hI,hJ,hK,hL,hM,hN,hO,hP,hQ,hR,hS,hT,hU,hV,hW,hX,hY,hZ,h0,h1,h2,h3,h4,h5,h6,h7,h8,h9,jA,jB,jC,jD,jE,jF,jG,jH,jI,jJ,jK,jL,jM,jN,jO,jP,jQ,jR,jS,jT,jU,jV,jW,jX,jY,jZ,j0] M:=by kernel_rfl
theorem k7_4:P7 [1,1]=.seq (P7 [1,1,0]) (P7 [1,1,1]):=by kernel_rfl
theorem k7_5:P7 [1,1,0]=.seq (P7 [1,1,0,0]) (P7 [1,1,0,1]):=by kernel_rfl
theorem k7_6:P7 [1,1,0,0]=.region 2 (O7 [1,1,0,0]) false:=by kernel_rfl
theorem r7_2 {M:Mem} {call:CallM} {K:Array Value→Mem→R} :
 opsK Try.prog (fun _=>call) (O7 [1,1,0,0]) (O7 [1,1,0,0]).toList 0 #[g0,g1,g2,g3,g4,g5,g6,g7,g8,g9,gA,gB,gC,gD,gE,gF,gG,gH,gI,gJ,gK,gL,gM,gN,gO,gP,gQ,gR,gS,gT,gU,gV,gW,gX,gY,gZ,hA,hB,hC,hD,hE,hF,hG,hH,hI,hJ,hK,hL,hM,hN,hO,hP,hQ,hR,hS,hT,hU,hV,hW,hX,hY,hZ,h0,h1,h2,h3,h4,h5,h6,h7,h8,h9,jA,jB,jC,jD,jE,jF,jG,jH,jI,jJ,jK,jL,jM,jN,jO,jP,jQ,jR,jS,jT,jU,jV,jW,jX,jY,jZ,j0] M K=K #[g0,g1,g2,g3,g4,g5,g6,g7,.int .i64 0,g9,gA,gB,gC,gD,gE,gF,gG,gH,gI,gJ,gK,gL,gM,gN,gO,gP,gQ,gR,gS,gT,gU,gV,gW,gX,gY,gZ,hA,hB,hC,hD,hE,hF,hG,hH,hI,hJ,hK,hL,hM,hN,hO,hP,hQ,hR,hS,hT,hU,hV,hW,hX,hY,hZ,h0,h1,h2,h3,h4,h5,h6,h7,h8,h9,jA,jB,jC,jD,jE,jF,jG,jH,jI,jJ,jK,jL,jM,jN,jO,jP,jQ,jR,jS,jT,jU,jV,jW,jX,jY,jZ,j0] M:=by kernel_rfl
theorem k7_7:P7 [1,1,0,1]=.block 0 (P7 [1,1,0,1,0]):=by kernel_rfl
theorem k7_8:P7 [1,1,0,1,0]=.loop (P7 [1,1,0,1,0,0]):=by kernel_rfl
theorem k7_9:P7 [1,1,0,1,0,0]=.seq (P7 [1,1,0,1,0,0,0]) (P7 [1,1,0,1,0,0,1]):=by kernel_rfl
theorem k7_10:P7 [1,1,0,1,0,0,0]=.seq (P7 [1,1,0,1,0,0,0,0]) (P7 [1,1,0,1,0,0,0,1]):=by kernel_rfl
theorem k7_11:P7 [1,1,0,1,0,0,0,0]=.region 3 (O7 [1,1,0,1,0,0,0,0]) false:=by kernel_rfl
theorem r7_3 {Y0:Option Addr} {l0 y0:Nat} {x8:Int} {M:Mem} {call:CallM} {K:Array Value→Mem→R} :
 opsK Try.prog (fun _=>call) (O7 [1,1,0,1,0,0,0,0]) (O7 [1,1,0,1,0,0,0,0]).toList 0 #[.slice Y0 l0 y0,g1,g2,g3,g4,g5,g6,g7,.int .i64 x8,g9,gA,gB,gC,gD,gE,gF,gG,gH,gI,gJ,gK,gL,gM,gN,gO,gP,gQ,gR,gS,gT,gU,gV,gW,gX,gY,gZ,hA,hB,hC,hD,hE,hF,hG,hH,hI,hJ,hK,hL,hM,hN,hO,hP,hQ,hR,hS,hT,hU,hV,hW,hX,hY,hZ,h0,h1,h2,h3,h4,h5,h6,h7,h8,h9,jA,jB,jC,jD,jE,jF,jG,jH,jI,jJ,jK,jL,jM,jN,jO,jP,jQ,jR,jS,jT,jU,jV,jW,jX,jY,jZ,j0] M K=K #[.slice Y0 l0 y0,g1,g2,g3,g4,g5,g6,g7,.int .i64 x8,g9,gA,gB,gC,gD,gE,gF,gG,.int .i64 x8,.slice Y0 l0 y0,.int .i64 ((l0:Int)),.bool (decide (x8<((l0:Int)))),gL,gM,gN,gO,gP,gQ,gR,gS,gT,gU,gV,gW,gX,gY,gZ,hA,hB,hC,hD,hE,hF,hG,hH,hI,hJ,hK,hL,hM,hN,hO,hP,hQ,hR,hS,hT,hU,hV,hW,hX,hY,hZ,h0,h1,h2,h3,h4,h5,h6,h7,h8,h9,jA,jB,jC,jD,jE,jF,jG,jH,jI,jJ,jK,jL,jM,jN,jO,jP,jQ,jR,jS,jT,jU,jV,jW,jX,jY,jZ,j0] M:=by kernel_rfl
theorem c7_12:P7 [1,1,0,1,0,0,0,1]=.cond (.tmp 20) (P7 [1,1,0,1,0,0,0,1,0]) (P7 [1,1,0,1,0,0,0,1,1]):=by kernel_rfl
theorem k7_13:P7 [1,1,0,1,0,0,0,1,0]=.skip:=by kernel_rfl
theorem k7_14:P7 [1,1,0,1,0,0,1]=.seq (P7 [1,1,0,1,0,0,1,0]) (P7 [1,1,0,1,0,0,1,1]):=by kernel_rfl
theorem k7_15:P7 [1,1,0,1,0,0,1,0]=.block 1 (P7 [1,1,0,1,0,0,1,0,0]):=by kernel_rfl
theorem k7_16:P7 [1,1,0,1,0,0,1,0,0]=.region 5 (O7 [1,1,0,1,0,0,1,0,0]) false:=by kernel_rfl
theorem r7_5 {Y0:Option Addr} {l0 y0:Nat} {Y7:Option Addr} {l7 y7:Nat} {x8:Int} {M:Mem} {call:CallM} {K:Array Value→Mem→R} :
 opsK Try.prog (fun _=>call) (O7 [1,1,0,1,0,0,1,0,0]) (O7 [1,1,0,1,0,0,1,0,0]).toList 0 #[.slice Y0 l0 y0,g1,g2,g3,g4,g5,g6,.slice Y7 l7 y7,.int .i64 x8,g9,gA,gB,gC,gD,gE,gF,gG,gH,gI,gJ,gK,gL,gM,gN,gO,gP,gQ,gR,gS,gT,gU,gV,gW,gX,gY,gZ,hA,hB,hC,hD,hE,hF,hG,hH,hI,hJ,hK,hL,hM,hN,hO,hP,hQ,hR,hS,hT,hU,hV,hW,hX,hY,hZ,h0,h1,h2,h3,h4,h5,h6,h7,h8,h9,jA,jB,jC,jD,jE,jF,jG,jH,jI,jJ,jK,jL,jM,jN,jO,jP,jQ,jR,jS,jT,jU,jV,jW,jX,jY,jZ,j0] M K=(idxA Y0 l0 1 x8).bind fun a_1=>(M.slAt a_1.block a_1.off).bind fun s_2=>(call 21 #[.slice s_2.1 (s_2.2.1) (s_2.2.2)] M).bind fun r_3=>(asS r_3.1).bind fun s_4=>(appendP Try.prog #[45,45] (.slice Y7 l7 y7) (.slice (some ⟨2*r_3.2.nb.size,0,none⟩) 1 1) (r_3.2.new (.cells #[.slice s_4.1 (s_4.2.1) (s_4.2.2)] 46))).bind fun r_5=>(asS r_5.1).bind fun s_6=>K #[.slice Y0 l0 y0,g1,g2,g3,g4,g5,g6,.slice s_6.1 (s_6.2.1) (s_6.2.2),.int .i64 x8,g9,gA,gB,gC,gD,gE,gF,gG,gH,gI,gJ,gK,gL,gM,.slice Y7 l7 y7,.slice Y0 l0 y0,.int .i64 x8,.pointer (some a_1),.slice s_2.1 (s_2.2.1) (s_2.2.2),.slice s_4.1 (s_4.2.1) (s_4.2.2),.slice (some ⟨2*r_3.2.nb.size,0,none⟩) 1 1,.slice s_6.1 (s_6.2.1) (s_6.2.2),gV,gW,gX,gY,gZ,hA,hB,hC,hD,hE,hF,hG,hH,hI,hJ,hK,hL,hM,hN,hO,hP,hQ,hR,hS,hT,hU,hV,hW,hX,hY,hZ,h0,h1,h2,h3,h4,h5,h6,h7,h8,h9,jA,jB,jC,jD,jE,jF,jG,jH,jI,jJ,jK,jL,jM,jN,jO,jP,jQ,jR,jS,jT,jU,jV,jW,jX,jY,jZ,j0] r_5.2:=by kernel_rfl
theorem k7_17:P7 [1,1,0,1,0,0,1,1]=.region 4 (O7 [1,1,0,1,0,0,1,1]) false:=by kernel_rfl
theorem r7_4 {x8:Int} {M:Mem} {call:CallM} {K:Array Value→Mem→R} :
 opsK Try.prog (fun _=>call) (O7 [1,1,0,1,0,0,1,1]) (O7 [1,1,0,1,0,0,1,1]).toList 0 #[g0,g1,g2,g3,g4,g5,g6,g7,.int .i64 x8,g9,gA,gB,gC,gD,gE,gF,gG,gH,gI,gJ,gK,gL,gM,gN,gO,gP,gQ,gR,gS,gT,gU,gV,gW,gX,gY,gZ,hA,hB,hC,hD,hE,hF,hG,hH,hI,hJ,hK,hL,hM,hN,hO,hP,hQ,hR,hS,hT,hU,hV,hW,hX,hY,hZ,h0,h1,h2,h3,h4,h5,h6,h7,h8,h9,jA,jB,jC,jD,jE,jF,jG,jH,jI,jJ,jK,jL,jM,jN,jO,jP,jQ,jR,jS,jT,jU,jV,jW,jX,jY,jZ,j0] M K=K #[g0,g1,g2,g3,g4,g5,g6,g7,.int .i64 (IntKind.i64.wrap (x8+1)),g9,gA,gB,gC,gD,gE,gF,gG,gH,gI,gJ,gK,.int .i64 x8,.int .i64 (IntKind.i64.wrap (x8+1)),gN,gO,gP,gQ,gR,gS,gT,gU,gV,gW,gX,gY,gZ,hA,hB,hC,hD,hE,hF,hG,hH,hI,hJ,hK,hL,hM,hN,hO,hP,hQ,hR,hS,hT,hU,hV,hW,hX,hY,hZ,h0,h1,h2,h3,h4,h5,h6,h7,h8,h9,jA,jB,jC,jD,jE,jF,jG,jH,jI,jJ,jK,jL,jM,jN,jO,jP,jQ,jR,jS,jT,jU,jV,jW,jX,jY,jZ,j0] M:=by kernel_rfl
theorem k7_18:P7 [1,1,0,1,0,0,0,1,1]=.exit 0:=by kernel_rfl
theorem k7_19:P7 [1,1,1]=.seq (P7 [1,1,1,0]) (P7 [1,1,1,1]):=by kernel_rfl
theorem k7_20:P7 [1,1,1,0]=.region 6 (O7 [1,1,1,0]) false:=by kernel_rfl
theorem r7_6 {Y7:Option Addr} {l7 y7:Nat} {M:Mem} {call:CallM} {K:Array Value→Mem→R} :
 opsK Try.prog (fun _=>call) (O7 [1,1,1,0]) (O7 [1,1,1,0]).toList 0 #[g0,g1,g2,g3,g4,g5,g6,.slice Y7 l7 y7,g8,g9,gA,gB,gC,gD,gE,gF,gG,gH,gI,gJ,gK,gL,gM,gN,gO,gP,gQ,gR,gS,gT,gU,gV,gW,gX,gY,gZ,hA,hB,hC,hD,hE,hF,hG,hH,hI,hJ,hK,hL,hM,hN,hO,hP,hQ,hR,hS,hT,hU,hV,hW,hX,hY,hZ,h0,h1,h2,h3,h4,h5,h6,h7,h8,h9,jA,jB,jC,jD,jE,jF,jG,jH,jI,jJ,jK,jL,jM,jN,jO,jP,jQ,jR,jS,jT,jU,jV,jW,jX,jY,jZ,j0] M K=(call 22 #[.slice Y7 l7 y7] M).bind fun r_1=>(asU 2 r_1.1).bind fun cs_2=>(asS (cs_2.getD 0 undef)).bind fun s_3=>(asI .i64 (cs_2.getD 1 undef)).bind fun x_4=>K #[g0,g1,g2,g3,g4,g5,g6,.slice Y7 l7 y7,g8,.slice s_3.1 (s_3.2.1) (s_3.2.2),.int .i64 x_4,gB,gC,gD,gE,gF,gG,gH,gI,gJ,gK,gL,gM,gN,gO,gP,gQ,gR,gS,gT,gU,.tuple #[.slice s_3.1 (s_3.2.1) (s_3.2.2),.int .i64 x_4],.slice Y7 l7 y7,.tuple #[.slice s_3.1 (s_3.2.1) (s_3.2.2),.int .i64 x_4],.slice s_3.1 (s_3.2.1) (s_3.2.2),.int .i64 x_4,hA,hB,hC,hD,hE,hF,hG,hH,hI,hJ,hK,hL,hM,hN,hO,hP,hQ,hR,hS,hT,hU,hV,hW,hX,hY,hZ,h0,h1,h2,h3,h4,h5,h6,h7,h8,h9,jA,jB,jC,jD,jE,jF,jG,jH,jI,jJ,jK,jL,jM,jN,jO,jP,jQ,jR,jS,jT,jU,jV,jW,jX,jY,jZ,j0] r_1.2:=by kernel_rfl
theorem k7_21:P7 [1,1,1,1]=.seq (P7 [1,1,1,1,0]) (P7 [1,1,1,1,1]):=by kernel_rfl
theorem k7_22:P7 [1,1,1,1,0]=.region 7 (O7 [1,1,1,1,0]) false:=by kernel_rfl
theorem r7_7 {Y0:Option Addr} {l0 y0:Nat} {M:Mem} {call:CallM} {K:Array Value→Mem→R} :
 opsK Try.prog (fun _=>call) (O7 [1,1,1,1,0]) (O7 [1,1,1,1,0]).toList 0 #[.slice Y0 l0 y0,g1,g2,g3,g4,g5,g6,g7,g8,g9,gA,gB,gC,gD,gE,gF,gG,gH,gI,gJ,gK,gL,gM,gN,gO,gP,gQ,gR,gS,gT,gU,gV,gW,gX,gY,gZ,hA,hB,hC,hD,hE,hF,hG,hH,hI,hJ,hK,hL,hM,hN,hO,hP,hQ,hR,hS,hT,hU,hV,hW,hX,hY,hZ,h0,h1,h2,h3,h4,h5,h6,h7,h8,h9,jA,jB,jC,jD,jE,jF,jG,jH,jI,jJ,jK,jL,jM,jN,jO,jP,jQ,jR,jS,jT,jU,jV,jW,jX,jY,jZ,j0] M K=(call 23 #[.slice Y0 l0 y0] M).bind fun r_1=>(asU 2 r_1.1).bind fun cs_2=>(asS (cs_2.getD 0 undef)).bind fun s_3=>(asI .i64 (cs_2.getD 1 undef)).bind fun x_4=>K #[.slice Y0 l0 y0,g1,g2,g3,g4,g5,g6,g7,g8,g9,gA,.slice s_3.1 (s_3.2.1) (s_3.2.2),.int .i64 x_4,gD,gE,gF,gG,gH,gI,gJ,gK,gL,gM,gN,gO,gP,gQ,gR,gS,gT,gU,gV,gW,gX,gY,gZ,.tuple #[.slice s_3.1 (s_3.2.1) (s_3.2.2),.int .i64 x_4],.slice Y0 l0 y0,.tuple #[.slice s_3.1 (s_3.2.1) (s_3.2.2),.int .i64 x_4],.slice s_3.1 (s_3.2.1) (s_3.2.2),.int .i64 x_4,hF,hG,hH,hI,hJ,hK,hL,hM,hN,hO,hP,hQ,hR,hS,hT,hU,hV,hW,hX,hY,hZ,h0,h1,h2,h3,h4,h5,h6,h7,h8,h9,jA,jB,jC,jD,jE,jF,jG,jH,jI,jJ,jK,jL,jM,jN,jO,jP,jQ,jR,jS,jT,jU,jV,jW,jX,jY,jZ,j0] r_1.2:=by kernel_rfl
theorem k7_23:P7 [1,1,1,1,1]=.seq (P7 [1,1,1,1,1,0]) (P7 [1,1,1,1,1,1]):=by kernel_rfl
theorem k7_24:P7 [1,1,1,1,1,0]=.seq (P7 [1,1,1,1,1,0,0]) (P7 [1,1,1,1,1,0,1]):=by kernel_rfl
theorem k7_25:P7 [1,1,1,1,1,0,0]=.region 8 (O7 [1,1,1,1,1,0,0]) false:=by kernel_rfl
theorem r7_8 {Y0:Option Addr} {l0 y0:Nat} {Y7:Option Addr} {l7 y7:Nat} {Y9:Option Addr} {l9 y9:Nat} {x10:Int} {Y11:Option Addr} {l11 y11:Nat} {x12:Int} {M:Mem} {call:CallM} {K:Array Value→Mem→R} :
 opsK Try.prog (fun _=>call) (O7 [1,1,1,1,1,0,0]) (O7 [1,1,1,1,1,0,0]).toList 0 #[.slice Y0 l0 y0,g1,g2,g3,g4,g5,g6,.slice Y7 l7 y7,g8,.slice Y9 l9 y9,.int .i64 x10,.slice Y11 l11 y11,.int .i64 x12,gD,gE,gF,gG,gH,gI,gJ,gK,gL,gM,gN,gO,gP,gQ,gR,gS,gT,gU,gV,gW,gX,gY,gZ,hA,hB,hC,hD,hE,hF,hG,hH,hI,hJ,hK,hL,hM,hN,hO,hP,hQ,hR,hS,hT,hU,hV,hW,hX,hY,hZ,h0,h1,h2,h3,h4,h5,h6,h7,h8,h9,jA,jB,jC,jD,jE,jF,jG,jH,jI,jJ,jK,jL,jM,jN,jO,jP,jQ,jR,jS,jT,jU,jV,jW,jX,jY,jZ,j0] M K=withK (fun w44 w45 w46 w47 w48 w49 w50 w51 w52 w53 w54 w55 M=>K #[.slice Y0 l0 y0,g1,g2,g3,g4,g5,g6,.slice Y7 l7 y7,g8,.slice Y9 l9 y9,.int .i64 x10,.slice Y11 l11 y11,.int .i64 x12,gD,gE,gF,gG,gH,gI,gJ,gK,gL,gM,gN,gO,gP,gQ,gR,gS,gT,gU,gV,gW,gX,gY,gZ,hA,hB,hC,hD,hE,.int .i64 x10,.int .i64 x12,.bool (x10 != x12),w44,w45,w46,w47,w48,w49,w50,w51,w52,w53,w54,w55,hU,hV,hW,hX,hY,hZ,h0,h1,h2,h3,h4,h5,h6,h7,h8,h9,jA,jB,jC,jD,jE,jF,jG,jH,jI,jJ,jK,jL,jM,jN,jO,jP,jQ,jR,jS,jT,jU,jV,jW,jX,jY,jZ,j0] M) fun k=>cond (x10 != x12) (k (.bool true) undef undef undef undef (.bool true) (.bool true) undef undef undef undef (.bool true) M) ((call 24 #[.slice Y9 l9 y9,.slice Y11 l11 y11] M).bind fun r_1=>(asB r_1.1).bind fun b_2=>cond (!b_2) (k (.bool false) (.slice Y9 l9 y9) (.slice Y11 l11 y11) (.bool b_2) (.bool (!b_2)) (.bool (!b_2)) (.bool true) undef undef undef undef (.bool true) r_1.2) ((call 25 #[.slice Y7 l7 y7,.slice Y0 l0 y0] r_1.2).bind fun r_3=>(asB r_3.1).bind fun b_4=>k (.bool false) (.slice Y9 l9 y9) (.slice Y11 l11 y11) (.bool b_2) (.bool (!b_2)) (.bool (!b_2)) (.bool false) (.slice Y7 l7 y7) (.slice Y0 l0 y0) (.bool b_4) (.bool (!b_4)) (.bool (!b_4)) r_3.2)):=by kernel_rfl
theorem c7_26:P7 [1,1,1,1,1,0,1]=.cond (.tmp 55) (P7 [1,1,1,1,1,0,1,0]) (P7 [1,1,1,1,1,0,1,1]):=by kernel_rfl
theorem k7_27:P7 [1,1,1,1,1,0,1,0]=.seq (P7 [1,1,1,1,1,0,1,0,0]) (P7 [1,1,1,1,1,0,1,0,1]):=by kernel_rfl
theorem k7_28:P7 [1,1,1,1,1,0,1,0,0]=.region 9 (O7 [1,1,1,1,1,0,1,0,0]) false:=by kernel_rfl
theorem r7_9 {M:Mem} {call:CallM} {K:Array Value→Mem→R} :
 opsK Try.prog (fun _=>call) (O7 [1,1,1,1,1,0,1,0,0]) (O7 [1,1,1,1,1,0,1,0,0]).toList 0 #[g0,g1,g2,g3,g4,g5,g6,g7,g8,g9,gA,gB,gC,gD,gE,gF,gG,gH,gI,gJ,gK,gL,gM,gN,gO,gP,gQ,gR,gS,gT,gU,gV,gW,gX,gY,gZ,hA,hB,hC,hD,hE,hF,hG,hH,hI,hJ,hK,hL,hM,hN,hO,hP,hQ,hR,hS,hT,hU,hV,hW,hX,hY,hZ,h0,h1,h2,h3,h4,h5,h6,h7,h8,h9,jA,jB,jC,jD,jE,jF,jG,jH,jI,jJ,jK,jL,jM,jN,jO,jP,jQ,jR,jS,jT,jU,jV,jW,jX,jY,jZ,j0] M K=K #[g0,g1,g2,g3,g4,g5,.bool false,g7,g8,g9,gA,gB,gC,gD,gE,gF,gG,gH,gI,gJ,gK,gL,gM,gN,gO,gP,gQ,gR,gS,gT,gU,gV,gW,gX,gY,gZ,hA,hB,hC,hD,hE,hF,hG,hH,hI,hJ,hK,hL,hM,hN,hO,hP,hQ,hR,hS,hT,hU,hV,hW,hX,hY,hZ,h0,h1,h2,h3,h4,h5,h6,h7,h8,h9,jA,jB,jC,jD,jE,jF,jG,jH,jI,jJ,jK,jL,jM,jN,jO,jP,jQ,jR,jS,jT,jU,jV,jW,jX,jY,jZ,j0] M:=by kernel_rfl
theorem k7_29:P7 [1,1,1,1,1,0,1,0,1]=.ret:=by kernel_rfl
theorem e7 {M:Mem}:finish Try.prog Try.f7 #[g0,g1,g2,g3,g4,g5,g6,g7,g8,g9,gA,gB,gC,gD,gE,gF,gG,gH,gI,gJ,gK,gL,gM,gN,gO,gP,gQ,gR,gS,gT,gU,gV,gW,gX,gY,gZ,hA,hB,hC,hD,hE,hF,hG,hH,hI,hJ,hK,hL,hM,hN,hO,hP,hQ,hR,hS,hT,hU,hV,hW,hX,hY,hZ,h0,h1,h2,h3,h4,h5,h6,h7,h8,h9,jA,jB,jC,jD,jE,jF,jG,jH,jI,jJ,jK,jL,jM,jN,jO,jP,jQ,jR,jS,jT,jU,jV,jW,jX,jY,jZ,j0] M=some (g6,M):=by kernel_rfl
theorem k7_31:P7 [1,1,1,1,1,0,1,1]=.skip:=by kernel_rfl
theorem k7_32:P7 [1,1,1,1,1,1]=.seq (P7 [1,1,1,1,1,1,0]) (P7 [1,1,1,1,1,1,1]):=by kernel_rfl
theorem k7_33:P7 [1,1,1,1,1,1,0]=.region 10 (O7 [1,1,1,1,1,1,0]) false:=by kernel_rfl
theorem r7_10 {Y1:Option Addr} {l1 y1:Nat} {M:Mem} {call:CallM} {K:Array Value→Mem→R} :
 opsK Try.prog (fun _=>call) (O7 [1,1,1,1,1,1,0]) (O7 [1,1,1,1,1,1,0]).toList 0 #[g0,.slice Y1 l1 y1,g2,g3,g4,g5,g6,g7,g8,g9,gA,gB,gC,gD,gE,gF,gG,gH,gI,gJ,gK,gL,gM,gN,gO,gP,gQ,gR,gS,gT,gU,gV,gW,gX,gY,gZ,hA,hB,hC,hD,hE,hF,hG,hH,hI,hJ,hK,hL,hM,hN,hO,hP,hQ,hR,hS,hT,hU,hV,hW,hX,hY,hZ,h0,h1,h2,h3,h4,h5,h6,h7,h8,h9,jA,jB,jC,jD,jE,jF,jG,jH,jI,jJ,jK,jL,jM,jN,jO,jP,jQ,jR,jS,jT,jU,jV,jW,jX,jY,jZ,j0] M K=(call 21 #[.slice Y1 l1 y1] M).bind fun r_1=>(asS r_1.1).bind fun s_2=>K #[g0,.slice Y1 l1 y1,g2,g3,g4,g5,g6,g7,g8,g9,gA,gB,gC,.slice s_2.1 (s_2.2.1) (s_2.2.2),gE,gF,gG,gH,gI,gJ,gK,gL,gM,gN,gO,gP,gQ,gR,gS,gT,gU,gV,gW,gX,gY,gZ,hA,hB,hC,hD,hE,hF,hG,hH,hI,hJ,hK,hL,hM,hN,hO,hP,hQ,hR,hS,hT,.slice Y1 l1 y1,.slice s_2.1 (s_2.2.1) (s_2.2.2),hW,hX,hY,hZ,h0,h1,h2,h3,h4,h5,h6,h7,h8,h9,jA,jB,jC,jD,jE,jF,jG,jH,jI,jJ,jK,jL,jM,jN,jO,jP,jQ,jR,jS,jT,jU,jV,jW,jX,jY,jZ,j0] r_1.2:=by kernel_rfl
theorem k7_34:P7 [1,1,1,1,1,1,1]=.seq (P7 [1,1,1,1,1,1,1,0]) (P7 [1,1,1,1,1,1,1,1]):=by kernel_rfl
theorem k7_35:P7 [1,1,1,1,1,1,1,0]=.region 11 (O7 [1,1,1,1,1,1,1,0]) false:=by kernel_rfl
theorem r7_11 {x2:Int} {Y13:Option Addr} {l13 y13:Nat} {M:Mem} {call:CallM} {K:Array Value→Mem→R} :
 opsK Try.prog (fun _=>call) (O7 [1,1,1,1,1,1,1,0]) (O7 [1,1,1,1,1,1,1,0]).toList 0 #[g0,g1,.int .i64 x2,g3,g4,g5,g6,g7,g8,g9,gA,gB,gC,.slice Y13 l13 y13,gE,gF,gG,gH,gI,gJ,gK,gL,gM,gN,gO,gP,gQ,gR,gS,gT,gU,gV,gW,gX,gY,gZ,hA,hB,hC,hD,hE,hF,hG,hH,hI,hJ,hK,hL,hM,hN,hO,hP,hQ,hR,hS,hT,hU,hV,hW,hX,hY,hZ,h0,h1,h2,h3,h4,h5,h6,h7,h8,h9,jA,jB,jC,jD,jE,jF,jG,jH,jI,jJ,jK,jL,jM,jN,jO,jP,jQ,jR,jS,jT,jU,jV,jW,jX,jY,jZ,j0] M K=(call 26 #[.slice Y13 l13 y13,.int .i64 x2] M).bind fun r_1=>(asU 2 r_1.1).bind fun cs_2=>(asS (cs_2.getD 0 undef)).bind fun s_3=>(asI .i64 (cs_2.getD 1 undef)).bind fun x_4=>K #[g0,g1,.int .i64 x2,g3,g4,g5,g6,g7,g8,g9,.int .i64 x_4,gB,gC,.slice Y13 l13 y13,.slice s_3.1 (s_3.2.1) (s_3.2.2),gF,gG,gH,gI,gJ,gK,gL,gM,gN,gO,gP,gQ,gR,gS,gT,gU,gV,gW,gX,gY,gZ,hA,hB,hC,hD,hE,hF,hG,hH,hI,hJ,hK,hL,hM,hN,hO,hP,hQ,hR,hS,hT,hU,hV,.tuple #[.slice s_3.1 (s_3.2.1) (s_3.2.2),.int .i64 x_4],.slice Y13 l13 y13,.int .i64 x2,.tuple #[.slice s_3.1 (s_3.2.1) (s_3.2.2),.int .i64 x_4],.slice s_3.1 (s_3.2.1) (s_3.2.2),.int .i64 x_4,h2,h3,h4,h5,h6,h7,h8,h9,jA,jB,jC,jD,jE,jF,jG,jH,jI,jJ,jK,jL,jM,jN,jO,jP,jQ,jR,jS,jT,jU,jV,jW,jX,jY,jZ,j0] r_1.2:=by kernel_rfl
theorem k7_36:P7 [1,1,1,1,1,1,1,1]=.seq (P7 [1,1,1,1,1,1,1,1,0]) (P7 [1,1,1,1,1,1,1,1,1]):=by kernel_rfl
theorem k7_37:P7 [1,1,1,1,1,1,1,1,0]=.region 12 (O7 [1,1,1,1,1,1,1,1,0]) false:=by kernel_rfl
theorem r7_12 {Y1:Option Addr} {l1 y1:Nat} {x2:Int} {M:Mem} {call:CallM} {K:Array Value→Mem→R} :
 opsK Try.prog (fun _=>call) (O7 [1,1,1,1,1,1,1,1,0]) (O7 [1,1,1,1,1,1,1,1,0]).toList 0 #[g0,.slice Y1 l1 y1,.int .i64 x2,g3,g4,g5,g6,g7,g8,g9,gA,gB,gC,gD,gE,gF,gG,gH,gI,gJ,gK,gL,gM,gN,gO,gP,gQ,gR,gS,gT,gU,gV,gW,gX,gY,gZ,hA,hB,hC,hD,hE,hF,hG,hH,hI,hJ,hK,hL,hM,hN,hO,hP,hQ,hR,hS,hT,hU,hV,hW,hX,hY,hZ,h0,h1,h2,h3,h4,h5,h6,h7,h8,h9,jA,jB,jC,jD,jE,jF,jG,jH,jI,jJ,jK,jL,jM,jN,jO,jP,jQ,jR,jS,jT,jU,jV,jW,jX,jY,jZ,j0] M K=(call 27 #[.slice Y1 l1 y1,.int .i64 x2] M).bind fun r_1=>(asU 2 r_1.1).bind fun cs_2=>(asS (cs_2.getD 0 undef)).bind fun s_3=>(asI .i64 (cs_2.getD 1 undef)).bind fun x_4=>K #[g0,.slice Y1 l1 y1,.int .i64 x2,g3,g4,g5,g6,g7,g8,g9,gA,gB,.int .i64 x_4,gD,gE,.slice s_3.1 (s_3.2.1) (s_3.2.2),gG,gH,gI,gJ,gK,gL,gM,gN,gO,gP,gQ,gR,gS,gT,gU,gV,gW,gX,gY,gZ,hA,hB,hC,hD,hE,hF,hG,hH,hI,hJ,hK,hL,hM,hN,hO,hP,hQ,hR,hS,hT,hU,hV,hW,hX,hY,hZ,h0,h1,.tuple #[.slice s_3.1 (s_3.2.1) (s_3.2.2),.int .i64 x_4],.slice Y1 l1 y1,.int .i64 x2,.tuple #[.slice s_3.1 (s_3.2.1) (s_3.2.2),.int .i64 x_4],.slice s_3.1 (s_3.2.1) (s_3.2.2),.int .i64 x_4,h8,h9,jA,jB,jC,jD,jE,jF,jG,jH,jI,jJ,jK,jL,jM,jN,jO,jP,jQ,jR,jS,jT,jU,jV,jW,jX,jY,jZ,j0] r_1.2:=by kernel_rfl
theorem k7_38:P7 [1,1,1,1,1,1,1,1,1]=.seq (P7 [1,1,1,1,1,1,1,1,1,0]) (P7 [1,1,1,1,1,1,1,1,1,1]):=by kernel_rfl
theorem k7_39:P7 [1,1,1,1,1,1,1,1,1,0]=.seq (P7 [1,1,1,1,1,1,1,1,1,0,0]) (P7 [1,1,1,1,1,1,1,1,1,0,1]):=by kernel_rfl
theorem k7_40:P7 [1,1,1,1,1,1,1,1,1,0,0]=.region 13 (O7 [1,1,1,1,1,1,1,1,1,0,0]) false:=by kernel_rfl
theorem r7_13 {x10 x12:Int} {Y14:Option Addr} {l14 y14:Nat} {Y15:Option Addr} {l15 y15:Nat} {M:Mem} {call:CallM} {K:Array Value→Mem→R} :
 opsK Try.prog (fun _=>call) (O7 [1,1,1,1,1,1,1,1,1,0,0]) (O7 [1,1,1,1,1,1,1,1,1,0,0]).toList 0 #[g0,g1,g2,g3,g4,g5,g6,g7,g8,g9,.int .i64 x10,gB,.int .i64 x12,gD,.slice Y14 l14 y14,.slice Y15 l15 y15,gG,gH,gI,gJ,gK,gL,gM,gN,gO,gP,gQ,gR,gS,gT,gU,gV,gW,gX,gY,gZ,hA,hB,hC,hD,hE,hF,hG,hH,hI,hJ,hK,hL,hM,hN,hO,hP,hQ,hR,hS,hT,hU,hV,hW,hX,hY,hZ,h0,h1,h2,h3,h4,h5,h6,h7,h8,h9,jA,jB,jC,jD,jE,jF,jG,jH,jI,jJ,jK,jL,jM,jN,jO,jP,jQ,jR,jS,jT,jU,jV,jW,jX,jY,jZ,j0] M K=withK (fun w73 w74 w75 w76 w77 w78 M=>K #[g0,g1,g2,g3,g4,g5,g6,g7,g8,g9,.int .i64 x10,gB,.int .i64 x12,gD,.slice Y14 l14 y14,.slice Y15 l15 y15,gG,gH,gI,gJ,gK,gL,gM,gN,gO,gP,gQ,gR,gS,gT,gU,gV,gW,gX,gY,gZ,hA,hB,hC,hD,hE,hF,hG,hH,hI,hJ,hK,hL,hM,hN,hO,hP,hQ,hR,hS,hT,hU,hV,hW,hX,hY,hZ,h0,h1,h2,h3,h4,h5,h6,h7,.int .i64 x10,.int .i64 x12,.bool (x10 != x12),w73,w74,w75,w76,w77,w78,jH,jI,jJ,jK,jL,jM,jN,jO,jP,jQ,jR,jS,jT,jU,jV,jW,jX,jY,jZ,j0] M) fun k=>cond (x10 != x12) (k (.bool true) undef undef undef undef (.bool true) M) ((call 25 #[.slice Y14 l14 y14,.slice Y15 l15 y15] M).bind fun r_1=>(asB r_1.1).bind fun b_2=>k (.bool false) (.slice Y14 l14 y14) (.slice Y15 l15 y15) (.bool b_2) (.bool (!b_2)) (.bool (!b_2)) r_1.2):=by kernel_rfl
theorem c7_41:P7 [1,1,1,1,1,1,1,1,1,0,1]=.cond (.tmp 78) (P7 [1,1,1,1,1,1,1,1,1,0,1,0]) (P7 [1,1,1,1,1,1,1,1,1,0,1,1]):=by kernel_rfl
theorem k7_42:P7 [1,1,1,1,1,1,1,1,1,0,1,0]=.seq (P7 [1,1,1,1,1,1,1,1,1,0,1,0,0]) (P7 [1,1,1,1,1,1,1,1,1,0,1,0,1]):=by kernel_rfl
theorem k7_43:P7 [1,1,1,1,1,1,1,1,1,0,1,0,0]=.region 14 (O7 [1,1,1,1,1,1,1,1,1,0,1,0,0]) false:=by kernel_rfl
theorem r7_14 {M:Mem} {call:CallM} {K:Array Value→Mem→R} :
 opsK Try.prog (fun _=>call) (O7 [1,1,1,1,1,1,1,1,1,0,1,0,0]) (O7 [1,1,1,1,1,1,1,1,1,0,1,0,0]).toList 0 #[g0,g1,g2,g3,g4,g5,g6,g7,g8,g9,gA,gB,gC,gD,gE,gF,gG,gH,gI,gJ,gK,gL,gM,gN,gO,gP,gQ,gR,gS,gT,gU,gV,gW,gX,gY,gZ,hA,hB,hC,hD,hE,hF,hG,hH,hI,hJ,hK,hL,hM,hN,hO,hP,hQ,hR,hS,hT,hU,hV,hW,hX,hY,hZ,h0,h1,h2,h3,h4,h5,h6,h7,h8,h9,jA,jB,jC,jD,jE,jF,jG,jH,jI,jJ,jK,jL,jM,jN,jO,jP,jQ,jR,jS,jT,jU,jV,jW,jX,jY,jZ,j0] M K=K #[g0,g1,g2,g3,g4,g5,.bool false,g7,g8,g9,gA,gB,gC,gD,gE,gF,gG,gH,gI,gJ,gK,gL,gM,gN,gO,gP,gQ,gR,gS,gT,gU,gV,gW,gX,gY,gZ,hA,hB,hC,hD,hE,hF,hG,hH,hI,hJ,hK,hL,hM,hN,hO,hP,hQ,hR,hS,hT,hU,hV,hW,hX,hY,hZ,h0,h1,h2,h3,h4,h5,h6,h7,h8,h9,jA,jB,jC,jD,jE,jF,jG,jH,jI,jJ,jK,jL,jM,jN,jO,jP,jQ,jR,jS,jT,jU,jV,jW,jX,jY,jZ,j0] M:=by kernel_rfl
theorem k7_44:P7 [1,1,1,1,1,1,1,1,1,0,1,0,1]=.ret:=by kernel_rfl
theorem k7_45:P7 [1,1,1,1,1,1,1,1,1,0,1,1]=.skip:=by kernel_rfl
theorem k7_46:P7 [1,1,1,1,1,1,1,1,1,1]=.seq (P7 [1,1,1,1,1,1,1,1,1,1,0]) (P7 [1,1,1,1,1,1,1,1,1,1,1]):=by kernel_rfl
theorem k7_47:P7 [1,1,1,1,1,1,1,1,1,1,0]=.seq (P7 [1,1,1,1,1,1,1,1,1,1,0,0]) (P7 [1,1,1,1,1,1,1,1,1,1,0,1]):=by kernel_rfl
theorem k7_48:P7 [1,1,1,1,1,1,1,1,1,1,0,0]=.region 15 (O7 [1,1,1,1,1,1,1,1,1,1,0,0]) false:=by kernel_rfl
theorem r7_15 {M:Mem} {call:CallM} {K:Array Value→Mem→R} :
 opsK Try.prog (fun _=>call) (O7 [1,1,1,1,1,1,1,1,1,1,0,0]) (O7 [1,1,1,1,1,1,1,1,1,1,0,0]).toList 0 #[g0,g1,g2,g3,g4,g5,g6,g7,g8,g9,gA,gB,gC,gD,gE,gF,gG,gH,gI,gJ,gK,gL,gM,gN,gO,gP,gQ,gR,gS,gT,gU,gV,gW,gX,gY,gZ,hA,hB,hC,hD,hE,hF,hG,hH,hI,hJ,hK,hL,hM,hN,hO,hP,hQ,hR,hS,hT,hU,hV,hW,hX,hY,hZ,h0,h1,h2,h3,h4,h5,h6,h7,h8,h9,jA,jB,jC,jD,jE,jF,jG,jH,jI,jJ,jK,jL,jM,jN,jO,jP,jQ,jR,jS,jT,jU,jV,jW,jX,jY,jZ,j0] M K=K #[g0,g1,g2,g3,g4,g5,g6,g7,g8,g9,gA,gB,gC,gD,gE,gF,.int .i64 0,gH,gI,gJ,gK,gL,gM,gN,gO,gP,gQ,gR,gS,gT,gU,gV,gW,gX,gY,gZ,hA,hB,hC,hD,hE,hF,hG,hH,hI,hJ,hK,hL,hM,hN,hO,hP,hQ,hR,hS,hT,hU,hV,hW,hX,hY,hZ,h0,h1,h2,h3,h4,h5,h6,h7,h8,h9,jA,jB,jC,jD,jE,jF,jG,jH,jI,jJ,jK,jL,jM,jN,jO,jP,jQ,jR,jS,jT,jU,jV,jW,jX,jY,jZ,j0] M:=by kernel_rfl
theorem k7_49:P7 [1,1,1,1,1,1,1,1,1,1,0,1]=.block 2 (P7 [1,1,1,1,1,1,1,1,1,1,0,1,0]):=by kernel_rfl
theorem k7_50:P7 [1,1,1,1,1,1,1,1,1,1,0,1,0]=.loop (P7 [1,1,1,1,1,1,1,1,1,1,0,1,0,0]):=by kernel_rfl
theorem k7_51:P7 [1,1,1,1,1,1,1,1,1,1,0,1,0,0]=.seq (P7 [1,1,1,1,1,1,1,1,1,1,0,1,0,0,0]) (P7 [1,1,1,1,1,1,1,1,1,1,0,1,0,0,1]):=by kernel_rfl
theorem k7_52:P7 [1,1,1,1,1,1,1,1,1,1,0,1,0,0,0]=.seq (P7 [1,1,1,1,1,1,1,1,1,1,0,1,0,0,0,0]) (P7 [1,1,1,1,1,1,1,1,1,1,0,1,0,0,0,1]):=by kernel_rfl
theorem k7_53:P7 [1,1,1,1,1,1,1,1,1,1,0,1,0,0,0,0]=.region 16 (O7 [1,1,1,1,1,1,1,1,1,1,0,1,0,0,0,0]) false:=by kernel_rfl
theorem r7_16 {Y13:Option Addr} {l13 y13:Nat} {x16:Int} {M:Mem} {call:CallM} {K:Array Value→Mem→R} :
 opsK Try.prog (fun _=>call) (O7 [1,1,1,1,1,1,1,1,1,1,0,1,0,0,0,0]) (O7 [1,1,1,1,1,1,1,1,1,1,0,1,0,0,0,0]).toList 0 #[g0,g1,g2,g3,g4,g5,g6,g7,g8,g9,gA,gB,gC,.slice Y13 l13 y13,gE,gF,.int .i64 x16,gH,gI,gJ,gK,gL,gM,gN,gO,gP,gQ,gR,gS,gT,gU,gV,gW,gX,gY,gZ,hA,hB,hC,hD,hE,hF,hG,hH,hI,hJ,hK,hL,hM,hN,hO,hP,hQ,hR,hS,hT,hU,hV,hW,hX,hY,hZ,h0,h1,h2,h3,h4,h5,h6,h7,h8,h9,jA,jB,jC,jD,jE,jF,jG,jH,jI,jJ,jK,jL,jM,jN,jO,jP,jQ,jR,jS,jT,jU,jV,jW,jX,jY,jZ,j0] M K=K #[g0,g1,g2,g3,g4,g5,g6,g7,g8,g9,gA,gB,gC,.slice Y13 l13 y13,gE,gF,.int .i64 x16,gH,gI,gJ,gK,gL,gM,gN,gO,gP,gQ,gR,gS,gT,gU,gV,gW,gX,gY,gZ,hA,hB,hC,hD,hE,hF,hG,hH,hI,hJ,hK,hL,hM,hN,hO,hP,hQ,hR,hS,hT,hU,hV,hW,hX,hY,hZ,h0,h1,h2,h3,h4,h5,h6,h7,h8,h9,jA,jB,jC,jD,jE,jF,jG,.int .i64 x16,.slice Y13 l13 y13,.int .i64 ((l13:Int)),.bool (decide (x16<((l13:Int)))),jL,jM,jN,jO,jP,jQ,jR,jS,jT,jU,jV,jW,jX,jY,jZ,j0] M:=by kernel_rfl
theorem c7_54:P7 [1,1,1,1,1,1,1,1,1,1,0,1,0,0,0,1]=.cond (.tmp 82) (P7 [1,1,1,1,1,1,1,1,1,1,0,1,0,0,0,1,0]) (P7 [1,1,1,1,1,1,1,1,1,1,0,1,0,0,0,1,1]):=by kernel_rfl
theorem k7_55:P7 [1,1,1,1,1,1,1,1,1,1,0,1,0,0,0,1,0]=.skip:=by kernel_rfl
theorem k7_56:P7 [1,1,1,1,1,1,1,1,1,1,0,1,0,0,1]=.seq (P7 [1,1,1,1,1,1,1,1,1,1,0,1,0,0,1,0]) (P7 [1,1,1,1,1,1,1,1,1,1,0,1,0,0,1,1]):=by kernel_rfl
theorem k7_57:P7 [1,1,1,1,1,1,1,1,1,1,0,1,0,0,1,0]=.block 3 (P7 [1,1,1,1,1,1,1,1,1,1,0,1,0,0,1,0,0]):=by kernel_rfl
theorem k7_58:P7 [1,1,1,1,1,1,1,1,1,1,0,1,0,0,1,0,0]=.region 18 (O7 [1,1,1,1,1,1,1,1,1,1,0,1,0,0,1,0,0]) false:=by kernel_rfl
theorem r7_18 {Y13:Option Addr} {l13 y13:Nat} {x16:Int} {M:Mem} {call:CallM} {K:Array Value→Mem→R} :
 opsK Try.prog (fun _=>call) (O7 [1,1,1,1,1,1,1,1,1,1,0,1,0,0,1,0,0]) (O7 [1,1,1,1,1,1,1,1,1,1,0,1,0,0,1,0,0]).toList 0 #[g0,g1,g2,g3,g4,g5,g6,g7,g8,g9,gA,gB,gC,.slice Y13 l13 y13,gE,gF,.int .i64 x16,gH,gI,gJ,gK,gL,gM,gN,gO,gP,gQ,gR,gS,gT,gU,gV,gW,gX,gY,gZ,hA,hB,hC,hD,hE,hF,hG,hH,hI,hJ,hK,hL,hM,hN,hO,hP,hQ,hR,hS,hT,hU,hV,hW,hX,hY,hZ,h0,h1,h2,h3,h4,h5,h6,h7,h8,h9,jA,jB,jC,jD,jE,jF,jG,jH,jI,jJ,jK,jL,jM,jN,jO,jP,jQ,jR,jS,jT,jU,jV,jW,jX,jY,jZ,j0] M K=(idxA Y13 l13 1 x16).bind fun a_1=>(M.intAt .u8 a_1.block a_1.off).bind fun x_2=>(idxA Y13 l13 1 x16).bind fun a_3=>(M.put a_3.block a_3.off (.int .u8 (IntKind.u8.wrap (((BitVec.ofInt (IntKind.bits .u8) x_2 ^^^ BitVec.ofInt (IntKind.bits .u8) 90).toNat:Int))))).bind fun M_4=>K #[g0,g1,g2,g3,g4,g5,g6,g7,g8,g9,gA,gB,gC,.slice Y13 l13 y13,gE,gF,.int .i64 x16,gH,gI,gJ,gK,gL,gM,gN,gO,gP,gQ,gR,gS,gT,gU,gV,gW,gX,gY,gZ,hA,hB,hC,hD,hE,hF,hG,hH,hI,hJ,hK,hL,hM,hN,hO,hP,hQ,hR,hS,hT,hU,hV,hW,hX,hY,hZ,h0,h1,h2,h3,h4,h5,h6,h7,h8,h9,jA,jB,jC,jD,jE,jF,jG,jH,jI,jJ,jK,jL,jM,.slice Y13 l13 y13,.int .i64 x16,.slice Y13 l13 y13,.int .i64 x16,.pointer (some a_1),.int .u8 x_2,.int .u8 (IntKind.u8.wrap (((BitVec.ofInt (IntKind.bits .u8) x_2 ^^^ BitVec.ofInt (IntKind.bits .u8) 90).toNat:Int))),.pointer (some a_3),jV,jW,jX,jY,jZ,j0] M_4:=by kernel_rfl
theorem k7_59:P7 [1,1,1,1,1,1,1,1,1,1,0,1,0,0,1,1]=.region 17 (O7 [1,1,1,1,1,1,1,1,1,1,0,1,0,0,1,1]) false:=by kernel_rfl
theorem r7_17 {x16:Int} {M:Mem} {call:CallM} {K:Array Value→Mem→R} :
 opsK Try.prog (fun _=>call) (O7 [1,1,1,1,1,1,1,1,1,1,0,1,0,0,1,1]) (O7 [1,1,1,1,1,1,1,1,1,1,0,1,0,0,1,1]).toList 0 #[g0,g1,g2,g3,g4,g5,g6,g7,g8,g9,gA,gB,gC,gD,gE,gF,.int .i64 x16,gH,gI,gJ,gK,gL,gM,gN,gO,gP,gQ,gR,gS,gT,gU,gV,gW,gX,gY,gZ,hA,hB,hC,hD,hE,hF,hG,hH,hI,hJ,hK,hL,hM,hN,hO,hP,hQ,hR,hS,hT,hU,hV,hW,hX,hY,hZ,h0,h1,h2,h3,h4,h5,h6,h7,h8,h9,jA,jB,jC,jD,jE,jF,jG,jH,jI,jJ,jK,jL,jM,jN,jO,jP,jQ,jR,jS,jT,jU,jV,jW,jX,jY,jZ,j0] M K=K #[g0,g1,g2,g3,g4,g5,g6,g7,g8,g9,gA,gB,gC,gD,gE,gF,.int .i64 (IntKind.i64.wrap (x16+1)),gH,gI,gJ,gK,gL,gM,gN,gO,gP,gQ,gR,gS,gT,gU,gV,gW,gX,gY,gZ,hA,hB,hC,hD,hE,hF,hG,hH,hI,hJ,hK,hL,hM,hN,hO,hP,hQ,hR,hS,hT,hU,hV,hW,hX,hY,hZ,h0,h1,h2,h3,h4,h5,h6,h7,h8,h9,jA,jB,jC,jD,jE,jF,jG,jH,jI,jJ,jK,.int .i64 x16,.int .i64 (IntKind.i64.wrap (x16+1)),jN,jO,jP,jQ,jR,jS,jT,jU,jV,jW,jX,jY,jZ,j0] M:=by kernel_rfl
theorem k7_60:P7 [1,1,1,1,1,1,1,1,1,1,0,1,0,0,0,1,1]=.exit 2:=by kernel_rfl
theorem k7_61:P7 [1,1,1,1,1,1,1,1,1,1,1]=.seq (P7 [1,1,1,1,1,1,1,1,1,1,1,0]) (P7 [1,1,1,1,1,1,1,1,1,1,1,1]):=by kernel_rfl
theorem k7_62:P7 [1,1,1,1,1,1,1,1,1,1,1,0]=.region 19 (O7 [1,1,1,1,1,1,1,1,1,1,1,0]) false:=by kernel_rfl
theorem r7_19 {Y14:Option Addr} {l14 y14:Nat} {Y15:Option Addr} {l15 y15:Nat} {M:Mem} {call:CallM} {K:Array Value→Mem→R} :
 opsK Try.prog (fun _=>call) (O7 [1,1,1,1,1,1,1,1,1,1,1,0]) (O7 [1,1,1,1,1,1,1,1,1,1,1,0]).toList 0 #[g0,g1,g2,g3,g4,g5,g6,g7,g8,g9,gA,gB,gC,gD,.slice Y14 l14 y14,.slice Y15 l15 y15,gG,gH,gI,gJ,gK,gL,gM,gN,gO,gP,gQ,gR,gS,gT,gU,gV,gW,gX,gY,gZ,hA,hB,hC,hD,hE,hF,hG,hH,hI,hJ,hK,hL,hM,hN,hO,hP,hQ,hR,hS,hT,hU,hV,hW,hX,hY,hZ,h0,h1,h2,h3,h4,h5,h6,h7,h8,h9,jA,jB,jC,jD,jE,jF,jG,jH,jI,jJ,jK,jL,jM,jN,jO,jP,jQ,jR,jS,jT,jU,jV,jW,jX,jY,jZ,j0] M K=withK (fun w6 w95 w96 w97 w98 M=>K #[g0,g1,g2,g3,g4,g5,w6,g7,g8,g9,gA,gB,gC,gD,.slice Y14 l14 y14,.slice Y15 l15 y15,gG,gH,gI,gJ,gK,gL,gM,gN,gO,gP,gQ,gR,gS,gT,gU,gV,gW,gX,gY,gZ,hA,hB,hC,hD,hE,hF,hG,hH,hI,hJ,hK,hL,hM,hN,hO,hP,hQ,hR,hS,hT,hU,hV,hW,hX,hY,hZ,h0,h1,h2,h3,h4,h5,h6,h7,h8,h9,jA,jB,jC,jD,jE,jF,jG,jH,jI,jJ,jK,jL,jM,jN,jO,jP,jQ,jR,jS,jT,jU,.slice Y14 l14 y14,.slice Y15 l15 y15,w95,w96,w97,w98] M) fun k=>(call 25 #[.slice Y14 l14 y14,.slice Y15 l15 y15] M).bind fun r_1=>(asB r_1.1).bind fun b_2=>cond b_2 ((call 14 #[] r_1.2).bind fun r_3=>(asB r_3.1).bind fun b_4=>k (.bool b_4) (.bool b_2) (.bool true) (.bool b_4) (.bool b_4) r_3.2) (k (.bool false) (.bool b_2) (.bool false) undef (.bool false) r_1.2):=by kernel_rfl
theorem k7_63:P7 [1,1,1,1,1,1,1,1,1,1,1,1]=.ret:=by kernel_rfl
noncomputable def S7_1:List Item:=[.code (P7 [1,1,0,1,0,0]),.inLoop (P7 [1,1,0,1,0,0]),.inBlock 0,.code (P7 [1,1,1])]
def A7_1 (Y0:Option Addr) (l0 y0:Nat) (Y1:Option Addr) (l1 y1:Nat) (x2:Int) (Y7:Option Addr) (l7 y7:Nat) (x8:Int) (M:Mem) (Q:Value→Mem→Prop):Prop:=∀ (g3 g4 g5 g6 g9 gA gB gC gD gE gF gG gH gI gJ gK gL gM gN gO gP gQ gR gS gT gU gV gW gX gY gZ hA hB hC hD hE hF hG hH hI hJ hK hL hM hN hO hP hQ hR hS hT hU hV hW hX hY hZ h0 h1 h2 h3 h4 h5 h6 h7 h8 h9 jA jB jC jD jE jF jG jH jI jJ jK jL jM jN jO jP jQ jR jS jT jU jV jW jX jY jZ j0:Value),Rn Try.prog Try.f7 S7_1 #[.slice Y0 l0 y0,.slice Y1 l1 y1,.int .i64 x2,g3,g4,g5,g6,.slice Y7 l7 y7,.int .i64 x8,g9,gA,gB,gC,gD,gE,gF,gG,gH,gI,gJ,gK,gL,gM,gN,gO,gP,gQ,gR,gS,gT,gU,gV,gW,gX,gY,gZ,hA,hB,hC,hD,hE,hF,hG,hH,hI,hJ,hK,hL,hM,hN,hO,hP,hQ,hR,hS,hT,hU,hV,hW,hX,hY,hZ,h0,h1,h2,h3,h4,h5,h6,h7,h8,h9,jA,jB,jC,jD,jE,jF,jG,jH,jI,jJ,jK,jL,jM,jN,jO,jP,jQ,jR,jS,jT,jU,jV,jW,jX,jY,jZ,j0] M Q
noncomputable def S7_2:List Item:=[.code (P7 [1,1,1,1,1,0,1]),.code (P7 [1,1,1,1,1,1])]
def A7_2 (Y1:Option Addr) (l1 y1:Nat) (x2:Int) (x55:Bool) (M:Mem) (Q:Value→Mem→Prop):Prop:=∀ (g0 g3 g4 g5 g6 g7 g8 g9 gA gB gC gD gE gF gG gH gI gJ gK gL gM gN gO gP gQ gR gS gT gU gV gW gX gY gZ hA hB hC hD hE hF hG hH hI hJ hK hL hM hN hO hP hQ hR hS hU hV hW hX hY hZ h0 h1 h2 h3 h4 h5 h6 h7 h8 h9 jA jB jC jD jE jF jG jH jI jJ jK jL jM jN jO jP jQ jR jS jT jU jV jW jX jY jZ j0:Value),Rn Try.prog Try.f7 S7_2 #[g0,.slice Y1 l1 y1,.int .i64 x2,g3,g4,g5,g6,g7,g8,g9,gA,gB,gC,gD,gE,gF,gG,gH,gI,gJ,gK,gL,gM,gN,gO,gP,gQ,gR,gS,gT,gU,gV,gW,gX,gY,gZ,hA,hB,hC,hD,hE,hF,hG,hH,hI,hJ,hK,hL,hM,hN,hO,hP,hQ,hR,hS,.bool x55,hU,hV,hW,hX,hY,hZ,h0,h1,h2,h3,h4,h5,h6,h7,h8,h9,jA,jB,jC,jD,jE,jF,jG,jH,jI,jJ,jK,jL,jM,jN,jO,jP,jQ,jR,jS,jT,jU,jV,jW,jX,jY,jZ,j0] M Q
noncomputable def S7_3:List Item:=[.code (P7 [1,1,1,1,1,1,1,1,1,0,1]),.code (P7 [1,1,1,1,1,1,1,1,1,1])]
def A7_3 (Y13:Option Addr) (l13 y13:Nat) (Y14:Option Addr) (l14 y14:Nat) (Y15:Option Addr) (l15 y15:Nat) (x78:Bool) (M:Mem) (Q:Value→Mem→Prop):Prop:=∀ (g0 g1 g2 g3 g4 g5 g6 g7 g8 g9 gA gB gC gG gH gI gJ gK gL gM gN gO gP gQ gR gS gT gU gV gW gX gY gZ hA hB hC hD hE hF hG hH hI hJ hK hL hM hN hO hP hQ hR hS hT hU hV hW hX hY hZ h0 h1 h2 h3 h4 h5 h6 h7 h8 h9 jA jB jC jD jE jF jH jI jJ jK jL jM jN jO jP jQ jR jS jT jU jV jW jX jY jZ j0:Value),Rn Try.prog Try.f7 S7_3 #[g0,g1,g2,g3,g4,g5,g6,g7,g8,g9,gA,gB,gC,.slice Y13 l13 y13,.slice Y14 l14 y14,.slice Y15 l15 y15,gG,gH,gI,gJ,gK,gL,gM,gN,gO,gP,gQ,gR,gS,gT,gU,gV,gW,gX,gY,gZ,hA,hB,hC,hD,hE,hF,hG,hH,hI,hJ,hK,hL,hM,hN,hO,hP,hQ,hR,hS,hT,hU,hV,hW,hX,hY,hZ,h0,h1,h2,h3,h4,h5,h6,h7,h8,h9,jA,jB,jC,jD,jE,jF,.bool x78,jH,jI,jJ,jK,jL,jM,jN,jO,jP,jQ,jR,jS,jT,jU,jV,jW,jX,jY,jZ,j0] M Q
noncomputable def S7_4:List Item:=[.code (P7 [1,1,1,1,1,1,1,1,1,1,0,1,0,0]),.inLoop (P7 [1,1,1,1,1,1,1,1,1,1,0,1,0,0]),.inBlock 2,.code (P7 [1,1,1,1,1,1,1,1,1,1,1])]
def A7_4 (Y13:Option Addr) (l13 y13:Nat) (Y14:Option Addr) (l14 y14:Nat) (Y15:Option Addr) (l15 y15:Nat) (x16:Int) (M:Mem) (Q:Value→Mem→Prop):Prop:=∀ (g0 g1 g2 g3 g4 g5 g6 g7 g8 g9 gA gB gC gH gI gJ gK gL gM gN gO gP gQ gR gS gT gU gV gW gX gY gZ hA hB hC hD hE hF hG hH hI hJ hK hL hM hN hO hP hQ hR hS hT hU hV hW hX hY hZ h0 h1 h2 h3 h4 h5 h6 h7 h8 h9 jA jB jC jD jE jF jG jH jI jJ jK jL jM jN jO jP jQ jR jS jT jU jV jW jX jY jZ j0:Value),Rn Try.prog Try.f7 S7_4 #[g0,g1,g2,g3,g4,g5,g6,g7,g8,g9,gA,gB,gC,.slice Y13 l13 y13,.slice Y14 l14 y14,.slice Y15 l15 y15,.int .i64 x16,gH,gI,gJ,gK,gL,gM,gN,gO,gP,gQ,gR,gS,gT,gU,gV,gW,gX,gY,gZ,hA,hB,hC,hD,hE,hF,hG,hH,hI,hJ,hK,hL,hM,hN,hO,hP,hQ,hR,hS,hT,hU,hV,hW,hX,hY,hZ,h0,h1,h2,h3,h4,h5,h6,h7,h8,h9,jA,jB,jC,jD,jE,jF,jG,jH,jI,jJ,jK,jL,jM,jN,jO,jP,jQ,jR,jS,jT,jU,jV,jW,jX,jY,jZ,j0] M Q
theorem w7_0 {Y0:Option Addr} {l0 y0:Nat} {Y1:Option Addr} {l1 y1:Nat} {x2:Int} {M:Mem} {Q:Value→Mem→Prop} (H :
 A7_1 Y0 l0 y0 Y1 l1 y1 x2 none 0 0 0 M Q):
 Cn Try.prog 7 #[.slice Y0 l0 y0,.slice Y1 l1 y1,.int .i64 x2] M Q:=by
  refine Cn.of b7 d7 t7 ?_
  refine Rn.seq k7_0 (Rn.region k7_1 (fun call K=>r7_0) (Rch.leaf (Rn.seq k7_2 (Rn.region k7_3 (fun call K=>r7_1) (Rch.leaf (Rn.seq k7_4 (Rn.seq k7_5 (Rn.region k7_6 (fun call K=>r7_2) (Rch.leaf (Rn.block k7_7 (Rn.loop k7_8 ?_)))))))))))
  exact H ..
theorem w7_1 {Y0:Option Addr} {l0 y0:Nat} {Y1:Option Addr} {l1 y1:Nat} {x2:Int} {Y7:Option Addr} {l7 y7:Nat} {x8:Int} {M:Mem} {Q:Value→Mem→Prop} (H :
 ((x8<((l0:Int))→
 ∃a1',idxA Y0 l0 1 x8=some a1'∧
 ∃s2',M.slAt a1'.block a1'.off=some s2'∧
 Cn Try.prog 21 #[.slice s2'.1 (s2'.2.1) (s2'.2.2)] M fun v3' N3'=>
 ∃s4',asS v3'=some s4'∧
 ∃r5',appendP Try.prog #[45,45] (.slice Y7 l7 y7) (.slice (some ⟨2*N3'.nb.size,0,none⟩) 1 1) (N3'.new (.cells #[.slice s4'.1 (s4'.2.1) (s4'.2.2)] 46))=some r5'∧
 ∃s6',asS r5'.1=some s6'∧
 A7_1 Y0 l0 y0 Y1 l1 y1 x2 s6'.1 s6'.2.1 s6'.2.2 (IntKind.i64.wrap (x8+1)) r5'.2 Q)∧
 (¬(x8<((l0:Int)))→
 Cn Try.prog 22 #[.slice Y7 l7 y7] M fun v7' N7'=>
 ∃cs8',asU 2 v7'=some cs8'∧
 ∃s9',asS (cs8'.getD 0 undef)=some s9'∧
 ∃x10',asI .i64 (cs8'.getD 1 undef)=some x10'∧
 Cn Try.prog 23 #[.slice Y0 l0 y0] N7' fun v11' N11'=>
 ∃cs12',asU 2 v11'=some cs12'∧
 ∃s13',asS (cs12'.getD 0 undef)=some s13'∧
 ∃x14',asI .i64 (cs12'.getD 1 undef)=some x14'∧
 ((x10'≠x14'→
 A7_2 Y1 l1 y1 x2 true N11' Q)∧
 (x10'=x14'→
 Cn Try.prog 24 #[.slice s9'.1 s9'.2.1 s9'.2.2,.slice s13'.1 s13'.2.1 s13'.2.2] N11' fun v15' N15'=>
 ∃b16',asB v15'=some b16'∧
 (((!b16')=true→
 A7_2 Y1 l1 y1 x2 true N15' Q)∧
 ((!b16')=false→
 Cn Try.prog 25 #[.slice Y7 l7 y7,.slice Y0 l0 y0] N15' fun v17' N17'=>
 ∃b18',asB v17'=some b18'∧
 A7_2 Y1 l1 y1 x2 (!b18') N17' Q))))))):
 A7_1 Y0 l0 y0 Y1 l1 y1 x2 Y7 l7 y7 x8 M Q:=by
  iterate 94 intro _
  refine Rn.seq k7_9 (Rn.seq k7_10 (Rn.region k7_11 (fun call K=>r7_3) (Rch.leaf ?_)))
  refine Rn.cnd (v:=decide (x8<((l0:Int)))) ⟨c7_12,rfl,by kernel_rfl⟩ (fun h=>?_) (fun h=>?_)
  · replace H:=H.1 (of_decide_eq_true h)
    refine Rn.skip k7_13 (Rn.seq k7_14 (Rn.block k7_15 (Rn.region k7_16 (fun call K=>r7_5) (Rch.ex H fun a1' H=>Rch.ex H fun s2' H=>Rch.call H fun v3' N3' H=>Rch.ex H fun s4' H=>Rch.ex H fun r5' H=>Rch.ex H fun s6' H=>Rch.leaf (Rn.blk ?_)))))
    refine Rn.region k7_17 (fun call K=>r7_4) (Rch.leaf (Rn.lp ?_))
    exact H ..
  · replace H:=H.2 (of_decide_eq_false h)
    refine Rn.exit k7_18 rfl (Rn.seq k7_19 (Rn.region k7_20 (fun call K=>r7_6) (Rch.call H fun v7' N7' H=>Rch.ex H fun cs8' H=>Rch.ex H fun s9' H=>Rch.ex H fun x10' H=>Rch.leaf (Rn.seq k7_21 (Rn.region k7_22 (fun call K=>r7_7) (Rch.call H fun v11' N11' H=>Rch.ex H fun cs12' H=>?_))))))
    refine Rch.ex H fun s13' H=>Rch.ex H fun x14' H=>Rch.leaf (Rn.seq k7_23 (Rn.seq k7_24 (Rn.region k7_25 (fun call K=>r7_8) ?_)))
    refine Rch.cB (fun h=>?_) (fun h=>?_)
    · replace H:=H.1 (ne_of_bneT h)
      refine Rch.leaf ?_
      exact H ..
    · replace H:=H.2 (eq_of_bneF h)
      refine Rch.call H fun v15' N15' H=>Rch.ex H fun b16' H=>?_
      refine Rch.cB (fun h=>?_) (fun h=>?_)
      · replace H:=H.1 (h)
        refine Rch.leaf ?_
        exact H ..
      · replace H:=H.2 (h)
        refine Rch.call H fun v17' N17' H=>Rch.ex H fun b18' H=>Rch.leaf ?_
        exact H ..
theorem w7_2 {Y1:Option Addr} {l1 y1:Nat} {x2:Int} {x55:Bool} {M:Mem} {Q:Value→Mem→Prop} (H :
 ((x55=true→
 Q (.bool false) M)∧
 (x55=false→
 Cn Try.prog 21 #[.slice Y1 l1 y1] M fun v19' N19'=>
 ∃s20',asS v19'=some s20'∧
 Cn Try.prog 26 #[.slice s20'.1 s20'.2.1 s20'.2.2,.int .i64 x2] N19' fun v21' N21'=>
 ∃cs22',asU 2 v21'=some cs22'∧
 ∃s23',asS (cs22'.getD 0 undef)=some s23'∧
 ∃x24',asI .i64 (cs22'.getD 1 undef)=some x24'∧
 Cn Try.prog 27 #[.slice Y1 l1 y1,.int .i64 x2] N21' fun v25' N25'=>
 ∃cs26',asU 2 v25'=some cs26'∧
 ∃s27',asS (cs26'.getD 0 undef)=some s27'∧
 ∃x28',asI .i64 (cs26'.getD 1 undef)=some x28'∧
 ((x24'≠x28'→
 A7_3 s20'.1 s20'.2.1 s20'.2.2 s23'.1 s23'.2.1 s23'.2.2 s27'.1 s27'.2.1 s27'.2.2 true N25' Q)∧
 (x24'=x28'→
 Cn Try.prog 25 #[.slice s23'.1 s23'.2.1 s23'.2.2,.slice s27'.1 s27'.2.1 s27'.2.2] N25' fun v29' N29'=>
 ∃b30',asB v29'=some b30'∧
 A7_3 s20'.1 s20'.2.1 s20'.2.2 s23'.1 s23'.2.1 s23'.2.2 s27'.1 s27'.2.1 s27'.2.2 (!b30') N29' Q))))):
 A7_2 Y1 l1 y1 x2 x55 M Q:=by
  iterate 96 intro _
  refine Rn.cnd (v:=x55) ⟨c7_26,rfl,by kernel_rfl⟩ (fun h=>?_) (fun h=>?_)
  · replace H:=H.1 (h)
    refine Rn.seq k7_27 (Rn.region k7_28 (fun call K=>r7_9) (Rch.leaf ?_))
    exact Rn.ret k7_29 e7 H
  · replace H:=H.2 (h)
    refine Rn.skip k7_31 (Rn.seq k7_32 (Rn.region k7_33 (fun call K=>r7_10) (Rch.call H fun v19' N19' H=>Rch.ex H fun s20' H=>Rch.leaf (Rn.seq k7_34 (Rn.region k7_35 (fun call K=>r7_11) (Rch.call H fun v21' N21' H=>Rch.ex H fun cs22' H=>Rch.ex H fun s23' H=>Rch.ex H fun x24' H=>?_))))))
    refine Rch.leaf (Rn.seq k7_36 (Rn.region k7_37 (fun call K=>r7_12) (Rch.call H fun v25' N25' H=>Rch.ex H fun cs26' H=>Rch.ex H fun s27' H=>Rch.ex H fun x28' H=>Rch.leaf (Rn.seq k7_38 (Rn.seq k7_39 (Rn.region k7_40 (fun call K=>r7_13) ?_))))))
    refine Rch.cB (fun h=>?_) (fun h=>?_)
    · replace H:=H.1 (ne_of_bneT h)
      refine Rch.leaf ?_
      exact H ..
    · replace H:=H.2 (eq_of_bneF h)
      refine Rch.call H fun v29' N29' H=>Rch.ex H fun b30' H=>Rch.leaf ?_
      exact H ..
theorem w7_3 {Y13:Option Addr} {l13 y13:Nat} {Y14:Option Addr} {l14 y14:Nat} {Y15:Option Addr} {l15 y15:Nat} {x78:Bool} {M:Mem} {Q:Value→Mem→Prop} (H :
 ((x78=true→
 Q (.bool false) M)∧
 (x78=false→
 A7_4 Y13 l13 y13 Y14 l14 y14 Y15 l15 y15 0 M Q))):
 A7_3 Y13 l13 y13 Y14 l14 y14 Y15 l15 y15 x78 M Q:=by
  iterate 95 intro _
  refine Rn.cnd (v:=x78) ⟨c7_41,rfl,by kernel_rfl⟩ (fun h=>?_) (fun h=>?_)
  · replace H:=H.1 (h)
    refine Rn.seq k7_42 (Rn.region k7_43 (fun call K=>r7_14) (Rch.leaf ?_))
    exact Rn.ret k7_44 e7 H
  · replace H:=H.2 (h)
    refine Rn.skip k7_45 (Rn.seq k7_46 (Rn.seq k7_47 (Rn.region k7_48 (fun call K=>r7_15) (Rch.leaf (Rn.block k7_49 (Rn.loop k7_50 ?_))))))
    exact H ..
theorem w7_4 {Y13:Option Addr} {l13 y13:Nat} {Y14:Option Addr} {l14 y14:Nat} {Y15:Option Addr} {l15 y15:Nat} {x16:Int} {M:Mem} {Q:Value→Mem→Prop} (H :
 ((x16<((l13:Int))→
 ∃a31',idxA Y13 l13 1 x16=some a31'∧
 ∃x32',M.intAt .u8 a31'.block a31'.off=some x32'∧
 ∃a33',idxA Y13 l13 1 x16=some a33'∧
 ∃M34',M.put a33'.block a33'.off (.int .u8 (IntKind.u8.wrap (((BitVec.ofInt (IntKind.bits .u8) x32' ^^^ BitVec.ofInt (IntKind.bits .u8) 90).toNat:Int))))=some M34'∧
 A7_4 Y13 l13 y13 Y14 l14 y14 Y15 l15 y15 (IntKind.i64.wrap (x16+1)) M34' Q)∧
 (¬(x16<((l13:Int)))→
 Cn Try.prog 25 #[.slice Y14 l14 y14,.slice Y15 l15 y15] M fun v35' N35'=>
 ∃b36',asB v35'=some b36'∧
 ((b36'=true→
 Cn Try.prog 14 #[] N35' fun v37' N37'=>
 ∃b38',asB v37'=some b38'∧
 Q (.bool b38') N37')∧
 (b36'=false→
 Q (.bool false) N35'))))):
 A7_4 Y13 l13 y13 Y14 l14 y14 Y15 l15 y15 x16 M Q:=by
  iterate 95 intro _
  refine Rn.seq k7_51 (Rn.seq k7_52 (Rn.region k7_53 (fun call K=>r7_16) (Rch.leaf ?_)))
  refine Rn.cnd (v:=decide (x16<((l13:Int)))) ⟨c7_54,rfl,by kernel_rfl⟩ (fun h=>?_) (fun h=>?_)
  · replace H:=H.1 (of_decide_eq_true h)
    refine Rn.skip k7_55 (Rn.seq k7_56 (Rn.block k7_57 (Rn.region k7_58 (fun call K=>r7_18) (Rch.ex H fun a31' H=>Rch.ex H fun x32' H=>Rch.ex H fun a33' H=>Rch.ex H fun M34' H=>Rch.leaf (Rn.blk (Rn.region k7_59 (fun call K=>r7_17) (Rch.leaf ?_)))))))
    refine Rn.lp ?_
    exact H ..
  · replace H:=H.2 (of_decide_eq_false h)
    refine Rn.exit k7_60 rfl (Rn.seq k7_61 (Rn.region k7_62 (fun call K=>r7_19) (Rch.call H fun v35' N35' H=>Rch.ex H fun b36' H=>?_)))
    refine Rch.cB (fun h=>?_) (fun h=>?_)
    · replace H:=H.1 (h)
      refine Rch.call H fun v37' N37' H=>Rch.ex H fun b38' H=>Rch.leaf ?_
      exact Rn.ret k7_63 e7 H
    · replace H:=H.2 (h)
      refine Rch.leaf ?_
      exact Rn.ret k7_63 e7 H
end Go.Zu
