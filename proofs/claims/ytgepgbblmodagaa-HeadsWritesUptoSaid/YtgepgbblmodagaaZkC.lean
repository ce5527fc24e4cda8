/- The functions' walks: for each function and each loop a rule of what it comes to. Printed by zw.py. -/
import Derived.Test.YtgepgbblmodagaaProg
import Derived.Test.YtgepgbblmodagaaZkA
set_option linter.unusedVariables false
set_option maxRecDepth 100000
namespace Go.Zt
open Go Go.Sim Go.Proofs
variable {g0 g1 g2 g3 g4 g5 g6 g7 g8 g9 gA gB gC gD gE gF gG gH gI gJ gK gL gM gN gO gP gQ gR gS gT gU gV gW gX gY gZ hA hB hC hD hE hF hG hH hI hJ hK hL hM hN hO hP hQ hR:Value}
noncomputable abbrev P62 (p:List Nat):Code:=subC (codeOf Try.f62) p
noncomputable abbrev O62 (p:List Nat):Array Oper:=opsOf (subC (codeOf Try.f62) p)
theorem b62:Try.prog.funcs[62]?=some Try.f62∧(Orc.tab Try.prog).lookup 62=none:=⟨by kernel_rfl,by kernel_rfl⟩
theorem d62:Try.f62.body=some (P62 []):=by kernel_rfl
theorem t62 {Y0:Option Addr} {l0 y0:Nat}:#[.slice Y0 l0 y0] ++ Array.replicate (Try.f62.ntmps-(#[.slice Y0 l0 y0]:Array Value).size) undef=#[.slice Y0 l0 y0,undef,undef,undef,undef,undef,undef,undef,undef,undef,undef,undef,undef,undef,undef,undef,undef,undef,undef,undef,undef,undef,undef,undef,undef,undef,undef,undef,undef,undef,undef,undef,undef,undef,undef,undef,undef,undef,undef]:=by kernel_rfl
theorem k62_0:P62 []=.seq (P62 [0]) (P62 [1]):=by kernel_rfl
theorem k62_1:P62 [0]=.region 0 (O62 [0]) false:=by kernel_rfl
theorem r62_0 {M:Mem} {call:CallM} {K:Array Value→Mem→R} :
 opsK Try.prog (fun _=>call) (O62 [0]) (O62 [0]).toList 0 #[g0,g1,g2,g3,g4,g5,g6,g7,g8,g9,gA,gB,gC,gD,gE,gF,gG,gH,gI,gJ,gK,gL,gM,gN,gO,gP,gQ,gR,gS,gT,gU,gV,gW,gX,gY,gZ,hA,hB,hC] M K=K #[g0,g1,.slice none 0 0,g3,g4,g5,g6,g7,g8,g9,gA,gB,gC,gD,gE,gF,gG,gH,gI,gJ,gK,gL,gM,gN,gO,gP,gQ,gR,gS,gT,gU,gV,gW,gX,gY,gZ,hA,hB,hC] M:=by kernel_rfl
theorem k62_2:P62 [1]=.seq (P62 [1,0]) (P62 [1,1]):=by kernel_rfl
theorem k62_3:P62 [1,0]=.region 1 (O62 [1,0]) false:=by kernel_rfl
theorem r62_1 {M:Mem} {call:CallM} {K:Array Value→Mem→R} :
 opsK Try.prog (fun _=>call) (O62 [1,0]) (O62 [1,0]).toList 0 #[g0,g1,g2,g3,g4,g5,g6,g7,g8,g9,gA,gB,gC,gD,gE,gF,gG,gH,gI,gJ,gK,gL,gM,gN,gO,gP,gQ,gR,gS,gT,gU,gV,gW,gX,gY,gZ,hA,hB,hC] M K=K #[g0,g1,g2,.slice none 0 0,g4,g5,g6,g7,g8,g9,gA,gB,gC,gD,gE,gF,gG,gH,gI,gJ,gK,gL,gM,gN,gO,gP,gQ,gR,gS,gT,gU,gV,gW,gX,gY,gZ,hA,hB,hC] M:=by kernel_rfl
theorem k62_4:P62 [1,1]=.seq (P62 [1,1,0]) (P62 [1,1,1]):=by kernel_rfl
theorem k62_5:P62 [1,1,0]=.seq (P62 [1,1,0,0]) (P62 [1,1,0,1]):=by kernel_rfl
theorem k62_6:P62 [1,1,0,0]=.region 2 (O62 [1,1,0,0]) false:=by kernel_rfl
theorem r62_2 {M:Mem} {call:CallM} {K:Array Value→Mem→R} :
 opsK Try.prog (fun _=>call) (O62 [1,1,0,0]) (O62 [1,1,0,0]).toList 0 #[g0,g1,g2,g3,g4,g5,g6,g7,g8,g9,gA,gB,gC,gD,gE,gF,gG,gH,gI,gJ,gK,gL,gM,gN,gO,gP,gQ,gR,gS,gT,gU,gV,gW,gX,gY,gZ,hA,hB,hC] M K=K #[g0,g1,g2,g3,.int .i64 0,g5,g6,g7,g8,g9,gA,gB,gC,gD,gE,gF,gG,gH,gI,gJ,gK,gL,gM,gN,gO,gP,gQ,gR,gS,gT,gU,gV,gW,gX,gY,gZ,hA,hB,hC] M:=by kernel_rfl
theorem k62_7:P62 [1,1,0,1]=.block 0 (P62 [1,1,0,1,0]):=by kernel_rfl
theorem k62_8:P62 [1,1,0,1,0]=.loop (P62 [1,1,0,1,0,0]):=by kernel_rfl
theorem k62_9:P62 [1,1,0,1,0,0]=.seq (P62 [1,1,0,1,0,0,0]) (P62 [1,1,0,1,0,0,1]):=by kernel_rfl
theorem k62_10:P62 [1,1,0,1,0,0,0]=.seq (P62 [1,1,0,1,0,0,0,0]) (P62 [1,1,0,1,0,0,0,1]):=by kernel_rfl
theorem k62_11:P62 [1,1,0,1,0,0,0,0]=.region 3 (O62 [1,1,0,1,0,0,0,0]) false:=by kernel_rfl
theorem r62_3 {Y0:Option Addr} {l0 y0:Nat} {x4:Int} {M:Mem} {call:CallM} {K:Array Value→Mem→R} :
 opsK Try.prog (fun _=>call) (O62 [1,1,0,1,0,0,0,0]) (O62 [1,1,0,1,0,0,0,0]).toList 0 #[.slice Y0 l0 y0,g1,g2,g3,.int .i64 x4,g5,g6,g7,g8,g9,gA,gB,gC,gD,gE,gF,gG,gH,gI,gJ,gK,gL,gM,gN,gO,gP,gQ,gR,gS,gT,gU,gV,gW,gX,gY,gZ,hA,hB,hC] M K=K #[.slice Y0 l0 y0,g1,g2,g3,.int .i64 x4,g5,g6,.int .i64 x4,.slice Y0 l0 y0,.int .i64 ((l0:Int)),.bool (decide (x4<((l0:Int)))),gB,gC,gD,gE,gF,gG,gH,gI,gJ,gK,gL,gM,gN,gO,gP,gQ,gR,gS,gT,gU,gV,gW,gX,gY,gZ,hA,hB,hC] M:=by kernel_rfl
theorem c62_12:P62 [1,1,0,1,0,0,0,1]=.cond (.tmp 10) (P62 [1,1,0,1,0,0,0,1,0]) (P62 [1,1,0,1,0,0,0,1,1]):=by kernel_rfl
theorem k62_13:P62 [1,1,0,1,0,0,0,1,0]=.skip:=by kernel_rfl
theorem k62_14:P62 [1,1,0,1,0,0,1]=.seq (P62 [1,1,0,1,0,0,1,0]) (P62 [1,1,0,1,0,0,1,1]):=by kernel_rfl
theorem k62_15:P62 [1,1,0,1,0,0,1,0]=.block 1 (P62 [1,1,0,1,0,0,1,0,0]):=by kernel_rfl
theorem k62_16:P62 [1,1,0,1,0,0,1,0,0]=.seq (P62 [1,1,0,1,0,0,1,0,0,0]) (P62 [1,1,0,1,0,0,1,0,0,1]):=by kernel_rfl
theorem k62_17:P62 [1,1,0,1,0,0,1,0,0,0]=.region 5 (O62 [1,1,0,1,0,0,1,0,0,0]) false:=by kernel_rfl
theorem r62_5 {M:Mem} {call:CallM} {K:Array Value→Mem→R} :
 opsK Try.prog (fun _=>call) (O62 [1,1,0,1,0,0,1,0,0,0]) (O62 [1,1,0,1,0,0,1,0,0,0]).toList 0 #[g0,g1,g2,g3,g4,g5,g6,g7,g8,g9,gA,gB,gC,gD,gE,gF,gG,gH,gI,gJ,gK,gL,gM,gN,gO,gP,gQ,gR,gS,gT,gU,gV,gW,gX,gY,gZ,hA,hB,hC] M K=K #[g0,g1,g2,g3,g4,.int .i64 0,g6,g7,g8,g9,gA,gB,gC,gD,gE,gF,gG,gH,gI,gJ,gK,gL,gM,gN,gO,gP,gQ,gR,gS,gT,gU,gV,gW,gX,gY,gZ,hA,hB,hC] M:=by kernel_rfl
theorem k62_18:P62 [1,1,0,1,0,0,1,0,0,1]=.seq (P62 [1,1,0,1,0,0,1,0,0,1,0]) (P62 [1,1,0,1,0,0,1,0,0,1,1]):=by kernel_rfl
theorem k62_19:P62 [1,1,0,1,0,0,1,0,0,1,0]=.seq (P62 [1,1,0,1,0,0,1,0,0,1,0,0]) (P62 [1,1,0,1,0,0,1,0,0,1,0,1]):=by kernel_rfl
theorem k62_20:P62 [1,1,0,1,0,0,1,0,0,1,0,0]=.region 6 (O62 [1,1,0,1,0,0,1,0,0,1,0,0]) false:=by kernel_rfl
theorem r62_6 {M:Mem} {call:CallM} {K:Array Value→Mem→R} :
 opsK Try.prog (fun _=>call) (O62 [1,1,0,1,0,0,1,0,0,1,0,0]) (O62 [1,1,0,1,0,0,1,0,0,1,0,0]).toList 0 #[g0,g1,g2,g3,g4,g5,g6,g7,g8,g9,gA,gB,gC,gD,gE,gF,gG,gH,gI,gJ,gK,gL,gM,gN,gO,gP,gQ,gR,gS,gT,gU,gV,gW,gX,gY,gZ,hA,hB,hC] M K=K #[g0,g1,g2,g3,g4,g5,.int .i64 0,g7,g8,g9,gA,gB,gC,gD,gE,gF,gG,gH,gI,gJ,gK,gL,gM,gN,gO,gP,gQ,gR,gS,gT,gU,gV,gW,gX,gY,gZ,hA,hB,hC] M:=by kernel_rfl
theorem k62_21:P62 [1,1,0,1,0,0,1,0,0,1,0,1]=.block 2 (P62 [1,1,0,1,0,0,1,0,0,1,0,1,0]):=by kernel_rfl
theorem k62_22:P62 [1,1,0,1,0,0,1,0,0,1,0,1,0]=.loop (P62 [1,1,0,1,0,0,1,0,0,1,0,1,0,0]):=by kernel_rfl
theorem k62_23:P62 [1,1,0,1,0,0,0,1,1]=.exit 0:=by kernel_rfl
theorem k62_24:P62 [1,1,1]=.seq (P62 [1,1,1,0]) (P62 [1,1,1,1]):=by kernel_rfl
theorem k62_25:P62 [1,1,1,0]=.region 13 (O62 [1,1,1,0]) false:=by kernel_rfl
theorem r62_13 {Y3:Option Addr} {l3 y3:Nat} {M:Mem} {call:CallM} {K:Array Value→Mem→R} :
 opsK Try.prog (fun _=>call) (O62 [1,1,1,0]) (O62 [1,1,1,0]).toList 0 #[g0,g1,g2,.slice Y3 l3 y3,g4,g5,g6,g7,g8,g9,gA,gB,gC,gD,gE,gF,gG,gH,gI,gJ,gK,gL,gM,gN,gO,gP,gQ,gR,gS,gT,gU,gV,gW,gX,gY,gZ,hA,hB,hC] M K=K #[g0,g1,.slice Y3 l3 y3,.slice Y3 l3 y3,g4,g5,g6,g7,g8,g9,gA,gB,gC,gD,gE,gF,gG,gH,gI,gJ,gK,gL,gM,gN,gO,gP,gQ,gR,gS,gT,gU,gV,gW,gX,gY,gZ,hA,hB,.slice Y3 l3 y3] M:=by kernel_rfl
theorem k62_26:P62 [1,1,1,1]=.ret:=by kernel_rfl
theorem e62 {M:Mem}:finish Try.prog Try.f62 #[g0,g1,g2,g3,g4,g5,g6,g7,g8,g9,gA,gB,gC,gD,gE,gF,gG,gH,gI,gJ,gK,gL,gM,gN,gO,gP,gQ,gR,gS,gT,gU,gV,gW,gX,gY,gZ,hA,hB,hC] M=some (g2,M):=by kernel_rfl
theorem k62_28:P62 [1,1,0,1,0,0,1,0,0,1,0,1,0,0]=.seq (P62 [1,1,0,1,0,0,1,0,0,1,0,1,0,0,0]) (P62 [1,1,0,1,0,0,1,0,0,1,0,1,0,0,1]):=by kernel_rfl
theorem k62_29:P62 [1,1,0,1,0,0,1,0,0,1,0,1,0,0,0]=.seq (P62 [1,1,0,1,0,0,1,0,0,1,0,1,0,0,0,0]) (P62 [1,1,0,1,0,0,1,0,0,1,0,1,0,0,0,1]):=by kernel_rfl
theorem k62_30:P62 [1,1,0,1,0,0,1,0,0,1,0,1,0,0,0,0]=.region 7 (O62 [1,1,0,1,0,0,1,0,0,1,0,1,0,0,0,0]) false:=by kernel_rfl
theorem r62_7 {x6:Int} {M:Mem} {call:CallM} {K:Array Value→Mem→R} :
 opsK Try.prog (fun _=>call) (O62 [1,1,0,1,0,0,1,0,0,1,0,1,0,0,0,0]) (O62 [1,1,0,1,0,0,1,0,0,1,0,1,0,0,0,0]).toList 0 #[g0,g1,g2,g3,g4,g5,.int .i64 x6,g7,g8,g9,gA,gB,gC,gD,gE,gF,gG,gH,gI,gJ,gK,gL,gM,gN,gO,gP,gQ,gR,gS,gT,gU,gV,gW,gX,gY,gZ,hA,hB,hC] M K=K #[g0,g1,g2,g3,g4,g5,.int .i64 x6,g7,g8,g9,gA,gB,gC,.int .i64 x6,.bool (decide (x6<8)),gF,gG,gH,gI,gJ,gK,gL,gM,gN,gO,gP,gQ,gR,gS,gT,gU,gV,gW,gX,gY,gZ,hA,hB,hC] M:=by kernel_rfl
theorem c62_31:P62 [1,1,0,1,0,0,1,0,0,1,0,1,0,0,0,1]=.cond (.tmp 14) (P62 [1,1,0,1,0,0,1,0,0,1,0,1,0,0,0,1,0]) (P62 [1,1,0,1,0,0,1,0,0,1,0,1,0,0,0,1,1]):=by kernel_rfl
theorem k62_32:P62 [1,1,0,1,0,0,1,0,0,1,0,1,0,0,0,1,0]=.skip:=by kernel_rfl
theorem k62_33:P62 [1,1,0,1,0,0,1,0,0,1,0,1,0,0,1]=.seq (P62 [1,1,0,1,0,0,1,0,0,1,0,1,0,0,1,0]) (P62 [1,1,0,1,0,0,1,0,0,1,0,1,0,0,1,1]):=by kernel_rfl
theorem k62_34:P62 [1,1,0,1,0,0,1,0,0,1,0,1,0,0,1,0]=.block 3 (P62 [1,1,0,1,0,0,1,0,0,1,0,1,0,0,1,0,0]):=by kernel_rfl
theorem k62_35:P62 [1,1,0,1,0,0,1,0,0,1,0,1,0,0,1,0,0]=.seq (P62 [1,1,0,1,0,0,1,0,0,1,0,1,0,0,1,0,0,0]) (P62 [1,1,0,1,0,0,1,0,0,1,0,1,0,0,1,0,0,1]):=by kernel_rfl
theorem k62_36:P62 [1,1,0,1,0,0,1,0,0,1,0,1,0,0,1,0,0,0]=.region 9 (O62 [1,1,0,1,0,0,1,0,0,1,0,1,0,0,1,0,0,0]) false:=by kernel_rfl
theorem r62_9 {x5:Int} {M:Mem} {call:CallM} {K:Array Value→Mem→R} :
 opsK Try.prog (fun _=>call) (O62 [1,1,0,1,0,0,1,0,0,1,0,1,0,0,1,0,0,0]) (O62 [1,1,0,1,0,0,1,0,0,1,0,1,0,0,1,0,0,0]).toList 0 #[g0,g1,g2,g3,g4,.int .i64 x5,g6,g7,g8,g9,gA,gB,gC,gD,gE,gF,gG,gH,gI,gJ,gK,gL,gM,gN,gO,gP,gQ,gR,gS,gT,gU,gV,gW,gX,gY,gZ,hA,hB,hC] M K=K #[g0,g1,g2,g3,g4,.int .i64 (IntKind.i64.wrap (x5*2)),g6,g7,g8,g9,gA,gB,gC,gD,gE,gF,gG,.int .i64 x5,.int .i64 (IntKind.i64.wrap (x5*2)),gJ,gK,gL,gM,gN,gO,gP,gQ,gR,gS,gT,gU,gV,gW,gX,gY,gZ,hA,hB,hC] M:=by kernel_rfl
theorem k62_37:P62 [1,1,0,1,0,0,1,0,0,1,0,1,0,0,1,0,0,1]=.seq (P62 [1,1,0,1,0,0,1,0,0,1,0,1,0,0,1,0,0,1,0]) (P62 [1,1,0,1,0,0,1,0,0,1,0,1,0,0,1,0,0,1,1]):=by kernel_rfl
theorem k62_38:P62 [1,1,0,1,0,0,1,0,0,1,0,1,0,0,1,0,0,1,0]=.region 10 (O62 [1,1,0,1,0,0,1,0,0,1,0,1,0,0,1,0,0,1,0]) false:=by kernel_rfl
theorem r62_10 {Y0:Option Addr} {l0 y0:Nat} {x4 x6:Int} {M:Mem} {call:CallM} {K:Array Value→Mem→R} :
 opsK Try.prog (fun _=>call) (O62 [1,1,0,1,0,0,1,0,0,1,0,1,0,0,1,0,0,1,0]) (O62 [1,1,0,1,0,0,1,0,0,1,0,1,0,0,1,0,0,1,0]).toList 0 #[.slice Y0 l0 y0,g1,g2,g3,.int .i64 x4,g5,.int .i64 x6,g7,g8,g9,gA,gB,gC,gD,gE,gF,gG,gH,gI,gJ,gK,gL,gM,gN,gO,gP,gQ,gR,gS,gT,gU,gV,gW,gX,gY,gZ,hA,hB,hC] M K=K #[.slice Y0 l0 y0,g1,g2,g3,.int .i64 x4,g5,.int .i64 x6,g7,g8,g9,gA,gB,gC,gD,gE,gF,gG,gH,gI,.int .i64 x4,.int .i64 x6,.int .i64 (IntKind.i64.wrap (x4+x6)),.slice Y0 l0 y0,.int .i64 ((l0:Int)),.bool (decide ((IntKind.i64.wrap (x4+x6))<((l0:Int)))),gP,gQ,gR,gS,gT,gU,gV,gW,gX,gY,gZ,hA,hB,hC] M:=by kernel_rfl
theorem c62_39:P62 [1,1,0,1,0,0,1,0,0,1,0,1,0,0,1,0,0,1,1]=.cond (.tmp 24) (P62 [1,1,0,1,0,0,1,0,0,1,0,1,0,0,1,0,0,1,1,0]) (P62 [1,1,0,1,0,0,1,0,0,1,0,1,0,0,1,0,0,1,1,1]):=by kernel_rfl
theorem k62_40:P62 [1,1,0,1,0,0,1,0,0,1,0,1,0,0,1,0,0,1,1,0]=.region 11 (O62 [1,1,0,1,0,0,1,0,0,1,0,1,0,0,1,0,0,1,1,0]) false:=by kernel_rfl
theorem r62_11 {Y0:Option Addr} {l0 y0:Nat} {x4 x5 x6:Int} {M:Mem} {call:CallM} {K:Array Value→Mem→R} :
 opsK Try.prog (fun _=>call) (O62 [1,1,0,1,0,0,1,0,0,1,0,1,0,0,1,0,0,1,1,0]) (O62 [1,1,0,1,0,0,1,0,0,1,0,1,0,0,1,0,0,1,1,0]).toList 0 #[.slice Y0 l0 y0,g1,g2,g3,.int .i64 x4,.int .i64 x5,.int .i64 x6,g7,g8,g9,gA,gB,gC,gD,gE,gF,gG,gH,gI,gJ,gK,gL,gM,gN,gO,gP,gQ,gR,gS,gT,gU,gV,gW,gX,gY,gZ,hA,hB,hC] M K=(idxA Y0 l0 1 (IntKind.i64.wrap (x4+x6))).bind fun a_1=>(M.intAt .i64 a_1.block a_1.off).bind fun x_2=>K #[.slice Y0 l0 y0,g1,g2,g3,.int .i64 x4,.int .i64 (IntKind.i64.wrap (x5+x_2)),.int .i64 x6,g7,g8,g9,gA,gB,gC,gD,gE,gF,gG,gH,gI,gJ,gK,gL,gM,gN,gO,.int .i64 x5,.slice Y0 l0 y0,.int .i64 x4,.int .i64 x6,.int .i64 (IntKind.i64.wrap (x4+x6)),.pointer (some a_1),.int .i64 x_2,.int .i64 (IntKind.i64.wrap (x5+x_2)),gX,gY,gZ,hA,hB,hC] M:=by kernel_rfl
theorem k62_41:P62 [1,1,0,1,0,0,1,0,0,1,0,1,0,0,1,0,0,1,1,1]=.skip:=by kernel_rfl
theorem k62_42:P62 [1,1,0,1,0,0,1,0,0,1,0,1,0,0,0,1,1]=.exit 2:=by kernel_rfl
theorem k62_43:P62 [1,1,0,1,0,0,1,0,0,1,1]=.region 12 (O62 [1,1,0,1,0,0,1,0,0,1,1]) false:=by kernel_rfl
theorem r62_12 {Y3:Option Addr} {l3 y3:Nat} {x5:Int} {M:Mem} {call:CallM} {K:Array Value→Mem→R} :
 opsK Try.prog (fun _=>call) (O62 [1,1,0,1,0,0,1,0,0,1,1]) (O62 [1,1,0,1,0,0,1,0,0,1,1]).toList 0 #[g0,g1,g2,.slice Y3 l3 y3,g4,.int .i64 x5,g6,g7,g8,g9,gA,gB,gC,gD,gE,gF,gG,gH,gI,gJ,gK,gL,gM,gN,gO,gP,gQ,gR,gS,gT,gU,gV,gW,gX,gY,gZ,hA,hB,hC] M K=(appendP Try.prog #[24,24] (.slice Y3 l3 y3) (.slice (some ⟨2*M.nb.size,0,none⟩) 1 1) (M.new (.cells #[.int .u8 (IntKind.u8.wrap (x5))] 5))).bind fun r_1=>(asS r_1.1).bind fun s_2=>K #[g0,g1,g2,.slice s_2.1 (s_2.2.1) (s_2.2.2),g4,.int .i64 x5,g6,g7,g8,g9,gA,gB,gC,gD,gE,gF,gG,gH,gI,gJ,gK,gL,gM,gN,gO,gP,gQ,gR,gS,gT,gU,gV,gW,.slice Y3 l3 y3,.int .i64 x5,.int .u8 (IntKind.u8.wrap (x5)),.slice (some ⟨2*M.nb.size,0,none⟩) 1 1,.slice s_2.1 (s_2.2.1) (s_2.2.2),hC] r_1.2:=by kernel_rfl
theorem k62_44:P62 [1,1,0,1,0,0,1,1]=.region 4 (O62 [1,1,0,1,0,0,1,1]) false:=by kernel_rfl
theorem r62_4 {x4:Int} {M:Mem} {call:CallM} {K:Array Value→Mem→R} :
 opsK Try.prog (fun _=>call) (O62 [1,1,0,1,0,0,1,1]) (O62 [1,1,0,1,0,0,1,1]).toList 0 #[g0,g1,g2,g3,.int .i64 x4,g5,g6,g7,g8,g9,gA,gB,gC,gD,gE,gF,gG,gH,gI,gJ,gK,gL,gM,gN,gO,gP,gQ,gR,gS,gT,gU,gV,gW,gX,gY,gZ,hA,hB,hC] M K=K #[g0,g1,g2,g3,.int .i64 (IntKind.i64.wrap (x4+8)),g5,g6,g7,g8,g9,gA,.int .i64 x4,.int .i64 (IntKind.i64.wrap (x4+8)),gD,gE,gF,gG,gH,gI,gJ,gK,gL,gM,gN,gO,gP,gQ,gR,gS,gT,gU,gV,gW,gX,gY,gZ,hA,hB,hC] M:=by kernel_rfl
theorem k62_45:P62 [1,1,0,1,0,0,1,0,0,1,0,1,0,0,1,1]=.region 8 (O62 [1,1,0,1,0,0,1,0,0,1,0,1,0,0,1,1]) false:=by kernel_rfl
theorem r62_8 {x6:Int} {M:Mem} {call:CallM} {K:Array Value→Mem→R} :
 opsK Try.prog (fun _=>call) (O62 [1,1,0,1,0,0,1,0,0,1,0,1,0,0,1,1]) (O62 [1,1,0,1,0,0,1,0,0,1,0,1,0,0,1,1]).toList 0 #[g0,g1,g2,g3,g4,g5,.int .i64 x6,g7,g8,g9,gA,gB,gC,gD,gE,gF,gG,gH,gI,gJ,gK,gL,gM,gN,gO,gP,gQ,gR,gS,gT,gU,gV,gW,gX,gY,gZ,hA,hB,hC] M K=K #[g0,g1,g2,g3,g4,g5,.int .i64 (IntKind.i64.wrap (x6+1)),g7,g8,g9,gA,gB,gC,gD,gE,.int .i64 x6,.int .i64 (IntKind.i64.wrap (x6+1)),gH,gI,gJ,gK,gL,gM,gN,gO,gP,gQ,gR,gS,gT,gU,gV,gW,gX,gY,gZ,hA,hB,hC] M:=by kernel_rfl
noncomputable def S62_1:List Item:=[.code (P62 [1,1,0,1,0,0]),.inLoop (P62 [1,1,0,1,0,0]),.inBlock 0,.code (P62 [1,1,1])]
def A62_1 (Y0:Option Addr) (l0 y0:Nat) (Y3:Option Addr) (l3 y3:Nat) (x4:Int) (M:Mem) (Q:Value→Mem→Prop):Prop:=∀ (g1 g2 g5 g6 g7 g8 g9 gA gB gC gD gE gF gG gH gI gJ gK gL gM gN gO gP gQ gR gS gT gU gV gW gX gY gZ hA hB hC:Value),Rn Try.prog Try.f62 S62_1 #[.slice Y0 l0 y0,g1,g2,.slice Y3 l3 y3,.int .i64 x4,g5,g6,g7,g8,g9,gA,gB,gC,gD,gE,gF,gG,gH,gI,gJ,gK,gL,gM,gN,gO,gP,gQ,gR,gS,gT,gU,gV,gW,gX,gY,gZ,hA,hB,hC] M Q
noncomputable def S62_2:List Item:=[.code (P62 [1,1,0,1,0,0,1,0,0,1,0,1,0,0]),.inLoop (P62 [1,1,0,1,0,0,1,0,0,1,0,1,0,0]),.inBlock 2,.code (P62 [1,1,0,1,0,0,1,0,0,1,1]),.inBlock 1,.code (P62 [1,1,0,1,0,0,1,1]),.inLoop (P62 [1,1,0,1,0,0]),.inBlock 0,.code (P62 [1,1,1])]
def A62_2 (Y0:Option Addr) (l0 y0:Nat) (Y3:Option Addr) (l3 y3:Nat) (x4 x5 x6:Int) (M:Mem) (Q:Value→Mem→Prop):Prop:=∀ (g1 g2 g7 g8 g9 gA gB gC gD gE gF gG gH gI gJ gK gL gM gN gO gP gQ gR gS gT gU gV gW gX gY gZ hA hB hC:Value),Rn Try.prog Try.f62 S62_2 #[.slice Y0 l0 y0,g1,g2,.slice Y3 l3 y3,.int .i64 x4,.int .i64 x5,.int .i64 x6,g7,g8,g9,gA,gB,gC,gD,gE,gF,gG,gH,gI,gJ,gK,gL,gM,gN,gO,gP,gQ,gR,gS,gT,gU,gV,gW,gX,gY,gZ,hA,hB,hC] M Q
noncomputable def S62_3:List Item:=[.code (P62 [1,1,0,1,0,0,1,0,0,1,0,1,0,0,1,1]),.inLoop (P62 [1,1,0,1,0,0,1,0,0,1,0,1,0,0]),.inBlock 2,.code (P62 [1,1,0,1,0,0,1,0,0,1,1]),.inBlock 1,.code (P62 [1,1,0,1,0,0,1,1]),.inLoop (P62 [1,1,0,1,0,0]),.inBlock 0,.code (P62 [1,1,1])]
def A62_3 (Y0:Option Addr) (l0 y0:Nat) (Y3:Option Addr) (l3 y3:Nat) (x4 x5 x6:Int) (M:Mem) (Q:Value→Mem→Prop):Prop:=∀ (g1 g2 g7 g8 g9 gA gB gC gD gE gF gG gH gI gJ gK gL gM gN gO gP gQ gR gS gT gU gV gW gX gY gZ hA hB hC:Value),Rn Try.prog Try.f62 S62_3 #[.slice Y0 l0 y0,g1,g2,.slice Y3 l3 y3,.int .i64 x4,.int .i64 x5,.int .i64 x6,g7,g8,g9,gA,gB,gC,gD,gE,gF,gG,gH,gI,gJ,gK,gL,gM,gN,gO,gP,gQ,gR,gS,gT,gU,gV,gW,gX,gY,gZ,hA,hB,hC] M Q
theorem w62_0 {Y0:Option Addr} {l0 y0:Nat} {M:Mem} {Q:Value→Mem→Prop} (H :
 A62_1 Y0 l0 y0 none 0 0 0 M Q):
 Cn Try.prog 62 #[.slice Y0 l0 y0] M Q:=by
  refine Cn.of b62 d62 t62 ?_
  refine Rn.seq k62_0 (Rn.region k62_1 (fun call K=>r62_0) (Rch.leaf (Rn.seq k62_2 (Rn.region k62_3 (fun call K=>r62_1) (Rch.leaf (Rn.seq k62_4 (Rn.seq k62_5 (Rn.region k62_6 (fun call K=>r62_2) (Rch.leaf (Rn.block k62_7 (Rn.loop k62_8 ?_)))))))))))
  exact H ..
theorem w62_1 {Y0:Option Addr} {l0 y0:Nat} {Y3:Option Addr} {l3 y3:Nat} {x4:Int} {M:Mem} {Q:Value→Mem→Prop} (H :
 ((x4<((l0:Int))→
 A62_2 Y0 l0 y0 Y3 l3 y3 x4 0 0 M Q)∧
 (¬(x4<((l0:Int)))→
 Q (.slice Y3 l3 y3) M))):
 A62_1 Y0 l0 y0 Y3 l3 y3 x4 M Q:=by
  iterate 36 intro _
  refine Rn.seq k62_9 (Rn.seq k62_10 (Rn.region k62_11 (fun call K=>r62_3) (Rch.leaf ?_)))
  refine Rn.cnd (v:=decide (x4<((l0:Int)))) ⟨c62_12,rfl,by kernel_rfl⟩ (fun h=>?_) (fun h=>?_)
  · replace H:=H.1 (of_decide_eq_true h)
    refine Rn.skip k62_13 (Rn.seq k62_14 (Rn.block k62_15 (Rn.seq k62_16 (Rn.region k62_17 (fun call K=>r62_5) (Rch.leaf (Rn.seq k62_18 (Rn.seq k62_19 (Rn.region k62_20 (fun call K=>r62_6) (Rch.leaf (Rn.block k62_21 (Rn.loop k62_22 ?_)))))))))))
    exact H ..
  · replace H:=H.2 (of_decide_eq_false h)
    refine Rn.exit k62_23 rfl (Rn.seq k62_24 (Rn.region k62_25 (fun call K=>r62_13) (Rch.leaf ?_)))
    exact Rn.ret k62_26 e62 H
theorem w62_2 {Y0:Option Addr} {l0 y0:Nat} {Y3:Option Addr} {l3 y3:Nat} {x4 x5 x6:Int} {M:Mem} {Q:Value→Mem→Prop} (H :
 ((x6<8→
 (((IntKind.i64.wrap (x4+x6))<((l0:Int))→
 ∃a1',idxA Y0 l0 1 (IntKind.i64.wrap (x4+x6))=some a1'∧
 ∃x2',M.intAt .i64 a1'.block a1'.off=some x2'∧
 A62_3 Y0 l0 y0 Y3 l3 y3 x4 (IntKind.i64.wrap ((IntKind.i64.wrap (x5*2))+x2')) x6 M Q)∧
 (¬((IntKind.i64.wrap (x4+x6))<((l0:Int)))→
 A62_3 Y0 l0 y0 Y3 l3 y3 x4 (IntKind.i64.wrap (x5*2)) x6 M Q)))∧
 (¬(x6<8)→
 ∃r3',appendP Try.prog #[24,24] (.slice Y3 l3 y3) (.slice (some ⟨2*M.nb.size,0,none⟩) 1 1) (M.new (.cells #[.int .u8 (IntKind.u8.wrap (x5))] 5))=some r3'∧
 ∃s4',asS r3'.1=some s4'∧
 A62_1 Y0 l0 y0 s4'.1 s4'.2.1 s4'.2.2 (IntKind.i64.wrap (x4+8)) r3'.2 Q))):
 A62_2 Y0 l0 y0 Y3 l3 y3 x4 x5 x6 M Q:=by
  iterate 34 intro _
  refine Rn.seq k62_28 (Rn.seq k62_29 (Rn.region k62_30 (fun call K=>r62_7) (Rch.leaf ?_)))
  refine Rn.cnd (v:=decide (x6<8)) ⟨c62_31,rfl,by kernel_rfl⟩ (fun h=>?_) (fun h=>?_)
  · replace H:=H.1 (of_decide_eq_true h)
    refine Rn.skip k62_32 (Rn.seq k62_33 (Rn.block k62_34 (Rn.seq k62_35 (Rn.region k62_36 (fun call K=>r62_9) (Rch.leaf (Rn.seq k62_37 (Rn.region k62_38 (fun call K=>r62_10) (Rch.leaf ?_))))))))
    refine Rn.cnd (v:=decide ((IntKind.i64.wrap (x4+x6))<((l0:Int)))) ⟨c62_39,rfl,by kernel_rfl⟩ (fun h=>?_) (fun h=>?_)
    · replace H:=H.1 (of_decide_eq_true h)
      refine Rn.region k62_40 (fun call K=>r62_11) (Rch.ex H fun a1' H=>Rch.ex H fun x2' H=>Rch.leaf (Rn.blk ?_))
      exact H ..
    · replace H:=H.2 (of_decide_eq_false h)
      refine Rn.skip k62_41 (Rn.blk ?_)
      exact H ..
  · replace H:=H.2 (of_decide_eq_false h)
    refine Rn.exit k62_42 rfl (Rn.region k62_43 (fun call K=>r62_12) (Rch.ex H fun r3' H=>Rch.ex H fun s4' H=>Rch.leaf (Rn.blk (Rn.region k62_44 (fun call K=>r62_4) (Rch.leaf (Rn.lp ?_))))))
    exact H ..
theorem w62_3 {Y0:Option Addr} {l0 y0:Nat} {Y3:Option Addr} {l3 y3:Nat} {x4 x5 x6:Int} {M:Mem} {Q:Value→Mem→Prop} (H :
 A62_2 Y0 l0 y0 Y3 l3 y3 x4 x5 (IntKind.i64.wrap (x6+1)) M Q):
 A62_3 Y0 l0 y0 Y3 l3 y3 x4 x5 x6 M Q:=by
  iterate 34 intro _
  refine Rn.region k62_45 (fun call K=>r62_8) (Rch.leaf (Rn.lp ?_))
  exact H ..
noncomputable abbrev P49 (p:List Nat):Code:=subC (codeOf Try.f49) p
noncomputable abbrev O49 (p:List Nat):Array Oper:=opsOf (subC (codeOf Try.f49) p)
theorem b49:Try.prog.funcs[49]?=some Try.f49∧(Orc.tab Try.prog).lookup 49=none:=⟨by kernel_rfl,by kernel_rfl⟩
theorem d49:Try.f49.body=some (P49 []):=by kernel_rfl
theorem t49 {x0:Option Addr} {x1 x2:Int}:#[.pointer x0,.int .u64 x1,.int .i64 x2] ++ Array.replicate (Try.f49.ntmps-(#[.pointer x0,.int .u64 x1,.int .i64 x2]:Array Value).size) undef=#[.pointer x0,.int .u64 x1,.int .i64 x2,undef,undef,undef,undef,undef,undef,undef,undef,undef,undef,undef,undef,undef,undef,undef,undef,undef,undef,undef,undef,undef,undef,undef,undef]:=by kernel_rfl
theorem k49_0:P49 []=.seq (P49 [0]) (P49 [1]):=by kernel_rfl
theorem k49_1:P49 [0]=.region 0 (O49 [0]) false:=by kernel_rfl
theorem r49_0 {x2:Int} {M:Mem} {call:CallM} {K:Array Value→Mem→R} :
 opsK Try.prog (fun _=>call) (O49 [0]) (O49 [0]).toList 0 #[g0,g1,.int .i64 x2,g3,g4,g5,g6,g7,g8,g9,gA,gB,gC,gD,gE,gF,gG,gH,gI,gJ,gK,gL,gM,gN,gO,gP,gQ] M K=K #[g0,g1,.int .i64 x2,g3,g4,g5,.int .i64 (IntKind.i64.wrap (x2-1)),.int .i64 x2,.int .i64 (IntKind.i64.wrap (x2-1)),g9,gA,gB,gC,gD,gE,gF,gG,gH,gI,gJ,gK,gL,gM,gN,gO,gP,gQ] M:=by kernel_rfl
theorem k49_2:P49 [1]=.block 0 (P49 [1,0]):=by kernel_rfl
theorem k49_3:P49 [1,0]=.loop (P49 [1,0,0]):=by kernel_rfl
theorem k49_4:P49 [1,0,0]=.seq (P49 [1,0,0,0]) (P49 [1,0,0,1]):=by kernel_rfl
theorem k49_5:P49 [1,0,0,0]=.seq (P49 [1,0,0,0,0]) (P49 [1,0,0,0,1]):=by kernel_rfl
theorem k49_6:P49 [1,0,0,0,0]=.region 1 (O49 [1,0,0,0,0]) false:=by kernel_rfl
theorem r49_1 {x6:Int} {M:Mem} {call:CallM} {K:Array Value→Mem→R} :
 opsK Try.prog (fun _=>call) (O49 [1,0,0,0,0]) (O49 [1,0,0,0,0]).toList 0 #[g0,g1,g2,g3,g4,g5,.int .i64 x6,g7,g8,g9,gA,gB,gC,gD,gE,gF,gG,gH,gI,gJ,gK,gL,gM,gN,gO,gP,gQ] M K=K #[g0,g1,g2,g3,g4,g5,.int .i64 x6,g7,g8,.int .i64 x6,.bool (decide (x6≥0)),gB,gC,gD,gE,gF,gG,gH,gI,gJ,gK,gL,gM,gN,gO,gP,gQ] M:=by kernel_rfl
theorem c49_7:P49 [1,0,0,0,1]=.cond (.tmp 10) (P49 [1,0,0,0,1,0]) (P49 [1,0,0,0,1,1]):=by kernel_rfl
theorem k49_8:P49 [1,0,0,0,1,0]=.skip:=by kernel_rfl
theorem k49_9:P49 [1,0,0,1]=.seq (P49 [1,0,0,1,0]) (P49 [1,0,0,1,1]):=by kernel_rfl
theorem k49_10:P49 [1,0,0,1,0]=.block 1 (P49 [1,0,0,1,0,0]):=by kernel_rfl
theorem k49_11:P49 [1,0,0,1,0,0]=.region 3 (O49 [1,0,0,1,0,0]) true∧drawOk (O49 [1,0,0,1,0,0])=true:=⟨by kernel_rfl,by kernel_rfl⟩
theorem r49_3 {x0:Option Addr} {x1 x6:Int} {M:Mem} {call:CallM} {K:Array Value→Mem→R} :
    opsI Try.prog (callAt call (O49 [1,0,0,1,0,0])) (O49 [1,0,0,1,0,0]) (ordOf (O49 [1,0,0,1,0,0])) [] #[.pointer x0,.int .u64 x1,g2,g3,g4,g5,.int .i64 x6,g7,g8,g9,gA,gB,gC,gD,gE,gF,gG,gH,gI,gJ,gK,gL,gM,gN,gO,gP,gQ] M K=(x0).bind fun a_1=>(M.slAt a_1.block a_1.off).bind fun s_2=>(binV Try.prog .shr 86 3 (.int .u64 x1) (.int .i64 x6)).bind fun v_3=>(asI .u64 v_3).bind fun x_4=>(appendP Try.prog #[81,81] (.slice s_2.1 (s_2.2.1) (s_2.2.2)) (.slice (some ⟨2*M.nb.size,0,none⟩) 1 1) (M.new (.cells #[.int .i64 ((IntKind.i64.wrap (x_4)).tmod 2)] 3))).bind fun r_5=>(asS r_5.1).bind fun s_6=>(x0).bind fun a_7=>(r_5.2.put a_7.block a_7.off (.slice s_6.1 (s_6.2.1) (s_6.2.2))).bind fun M_8=>K #[.pointer x0,.int .u64 x1,g2,g3,g4,g5,.int .i64 x6,g7,g8,g9,gA,gB,gC,.pointer x0,.pointer x0,.pointer (some a_1),.pointer (some ⟨a_1.block,a_1.off,none⟩),.slice s_2.1 (s_2.2.1) (s_2.2.2),.int .u64 x1,.int .i64 x6,.int .u64 x_4,.int .i64 (IntKind.i64.wrap (x_4)),.int .i64 ((IntKind.i64.wrap (x_4)).tmod 2),.slice (some ⟨2*M.nb.size,0,none⟩) 1 1,.slice s_6.1 (s_6.2.1) (s_6.2.2),.pointer (some a_7),.pointer (some ⟨a_7.block,a_7.off,none⟩)] M_8:=by kernel_rfl
theorem k49_12:P49 [1,0,0,1,1]=.region 2 (O49 [1,0,0,1,1]) false:=by kernel_rfl
theorem r49_2 {x6:Int} {M:Mem} {call:CallM} {K:Array Value→Mem→R} :
 opsK Try.prog (fun _=>call) (O49 [1,0,0,1,1]) (O49 [1,0,0,1,1]).toList 0 #[g0,g1,g2,g3,g4,g5,.int .i64 x6,g7,g8,g9,gA,gB,gC,gD,gE,gF,gG,gH,gI,gJ,gK,gL,gM,gN,gO,gP,gQ] M K=K #[g0,g1,g2,g3,g4,g5,.int .i64 (IntKind.i64.wrap (x6-1)),g7,g8,g9,gA,.int .i64 x6,.int .i64 (IntKind.i64.wrap (x6-1)),gD,gE,gF,gG,gH,gI,gJ,gK,gL,gM,gN,gO,gP,gQ] M:=by kernel_rfl
theorem k49_13:P49 [1,0,0,0,1,1]=.exit 0:=by kernel_rfl
theorem e49 {M:Mem}:finish Try.prog Try.f49 #[g0,g1,g2,g3,g4,g5,g6,g7,g8,g9,gA,gB,gC,gD,gE,gF,gG,gH,gI,gJ,gK,gL,gM,gN,gO,gP,gQ] M=some (.tuple #[],M):=by kernel_rfl
noncomputable def S49_1:List Item:=[.code (P49 [1,0,0]),.inLoop (P49 [1,0,0]),.inBlock 0]
def A49_1 (x0:Option Addr) (x1 x6:Int) (M:Mem) (Q:Value→Mem→Prop):Prop:=∀ (g2 g3 g4 g5 g7 g8 g9 gA gB gC gD gE gF gG gH gI gJ gK gL gM gN gO gP gQ:Value),Rn Try.prog Try.f49 S49_1 #[.pointer x0,.int .u64 x1,g2,g3,g4,g5,.int .i64 x6,g7,g8,g9,gA,gB,gC,gD,gE,gF,gG,gH,gI,gJ,gK,gL,gM,gN,gO,gP,gQ] M Q
theorem w49_0 {x0:Option Addr} {x1 x2:Int} {M:Mem} {Q:Value→Mem→Prop} (H :
 A49_1 x0 x1 (IntKind.i64.wrap (x2-1)) M Q):
 Cn Try.prog 49 #[.pointer x0,.int .u64 x1,.int .i64 x2] M Q:=by
  refine Cn.of b49 d49 t49 ?_
  refine Rn.seq k49_0 (Rn.region k49_1 (fun call K=>r49_0) (Rch.leaf (Rn.block k49_2 (Rn.loop k49_3 ?_))))
  exact H ..
theorem w49_1 {x0:Option Addr} {x1 x6:Int} {M:Mem} {Q:Value→Mem→Prop} (H :
 ((x6≥0→
 ∃a1',x0=some a1'∧
 ∃s2',M.slAt a1'.block a1'.off=some s2'∧
 ∃v3',binV Try.prog .shr 86 3 (.int .u64 x1) (.int .i64 x6)=some v3'∧
 ∃x4',asI .u64 v3'=some x4'∧
 ∃r5',appendP Try.prog #[81,81] (.slice s2'.1 (s2'.2.1) (s2'.2.2)) (.slice (some ⟨2*M.nb.size,0,none⟩) 1 1) (M.new (.cells #[.int .i64 ((IntKind.i64.wrap (x4')).tmod 2)] 3))=some r5'∧
 ∃s6',asS r5'.1=some s6'∧
 ∃a7',x0=some a7'∧
 ∃M8',r5'.2.put a7'.block a7'.off (.slice s6'.1 (s6'.2.1) (s6'.2.2))=some M8'∧
 A49_1 x0 x1 (IntKind.i64.wrap (x6-1)) M8' Q)∧
 (¬(x6≥0)→
 Q (.tuple #[]) M))):
 A49_1 x0 x1 x6 M Q:=by
  iterate 24 intro _
  refine Rn.seq k49_4 (Rn.seq k49_5 (Rn.region k49_6 (fun call K=>r49_1) (Rch.leaf ?_)))
  refine Rn.cnd (v:=decide (x6≥0)) ⟨c49_7,rfl,by kernel_rfl⟩ (fun h=>?_) (fun h=>?_)
  · replace H:=H.1 (of_decide_eq_true h)
    refine Rn.skip k49_8 (Rn.seq k49_9 (Rn.block k49_10 (Rn.regionD k49_11 (fun call K=>r49_3) (Rch.ex H fun a1' H=>Rch.ex H fun s2' H=>Rch.ex H fun v3' H=>Rch.ex H fun x4' H=>Rch.ex H fun r5' H=>Rch.ex H fun s6' H=>Rch.ex H fun a7' H=>Rch.ex H fun M8' H=>?_))))
    refine Rch.leaf (Rn.blk (Rn.region k49_12 (fun call K=>r49_2) (Rch.leaf (Rn.lp ?_))))
    exact H ..
  · replace H:=H.2 (of_decide_eq_false h)
    refine Rn.exit k49_13 rfl ?_
    exact Rn.fin e49 H
noncomputable abbrev P23 (p:List Nat):Code:=subC (codeOf Try.f23) p
noncomputable abbrev O23 (p:List Nat):Array Oper:=opsOf (subC (codeOf Try.f23) p)
theorem b23:Try.prog.funcs[23]?=some Try.f23∧(Orc.tab Try.prog).lookup 23=none:=⟨by kernel_rfl,by kernel_rfl⟩
theorem d23:Try.f23.body=some (P23 []):=by kernel_rfl
theorem t23 {x0:Option Addr} {x1 x2:Int}:#[.pointer x0,.int .u32 x1,.int .i64 x2] ++ Array.replicate (Try.f23.ntmps-(#[.pointer x0,.int .u32 x1,.int .i64 x2]:Array Value).size) undef=#[.pointer x0,.int .u32 x1,.int .i64 x2,undef,undef,undef,undef,undef,undef,undef,undef,undef,undef,undef,undef,undef,undef,undef,undef,undef,undef,undef,undef,undef,undef]:=by kernel_rfl
theorem k23_0:P23 []=.seq (P23 [0]) (P23 [1]):=by kernel_rfl
theorem k23_1:P23 [0]=.region 0 (O23 [0]) false:=by kernel_rfl
theorem r23_0 {M:Mem} {call:CallM} {K:Array Value→Mem→R} :
 opsK Try.prog (fun _=>call) (O23 [0]) (O23 [0]).toList 0 #[g0,g1,g2,g3,g4,g5,g6,g7,g8,g9,gA,gB,gC,gD,gE,gF,gG,gH,gI,gJ,gK,gL,gM,gN,gO] M K=K #[g0,g1,g2,g3,g4,g5,.int .i64 0,g7,g8,g9,gA,gB,gC,gD,gE,gF,gG,gH,gI,gJ,gK,gL,gM,gN,gO] M:=by kernel_rfl
theorem k23_2:P23 [1]=.seq (P23 [1,0]) (P23 [1,1]):=by kernel_rfl
theorem k23_3:P23 [1,0]=.seq (P23 [1,0,0]) (P23 [1,0,1]):=by kernel_rfl
theorem k23_4:P23 [1,0,0]=.region 1 (O23 [1,0,0]) false:=by kernel_rfl
theorem r23_1 {x1 x2:Int} {M:Mem} {call:CallM} {K:Array Value→Mem→R} :
 opsK Try.prog (fun _=>call) (O23 [1,0,0]) (O23 [1,0,0]).toList 0 #[g0,.int .u32 x1,.int .i64 x2,g3,g4,g5,g6,g7,g8,g9,gA,gB,gC,gD,gE,gF,gG,gH,gI,gJ,gK,gL,gM,gN,gO] M K=withK (fun w9 w10 w11 w12 w13 w14 w15 w16 w17 w18 w19 M=>K #[g0,.int .u32 x1,.int .i64 x2,g3,g4,g5,g6,.int .i64 x2,.bool (decide (x2<0)),w9,w10,w11,w12,w13,w14,w15,w16,w17,w18,w19,gK,gL,gM,gN,gO] M) fun k=>cond (decide (x2<0)) (k (.bool true) undef undef (.bool true) (.bool true) undef undef undef undef undef (.bool true) M) (cond (decide (x2>32)) (k (.bool false) (.int .i64 x2) (.bool (decide (x2>32))) (.bool (decide (x2>32))) (.bool true) undef undef undef undef undef (.bool true) M) ((binV Try.prog .shl 86 3 (.int .u64 1) (.int .i64 x2)).bind fun v_1=>(asI .u64 v_1).bind fun x_2=>k (.bool false) (.int .i64 x2) (.bool (decide (x2>32))) (.bool (decide (x2>32))) (.bool false) (.int .u32 x1) (.int .u64 (IntKind.u64.wrap (x1))) (.int .i64 x2) (.int .u64 x_2) (.bool (decide ((IntKind.u64.wrap (x1))≥x_2))) (.bool (decide ((IntKind.u64.wrap (x1))≥x_2))) M)):=by kernel_rfl
theorem c23_5:P23 [1,0,1]=.cond (.tmp 19) (P23 [1,0,1,0]) (P23 [1,0,1,1]):=by kernel_rfl
theorem k23_6:P23 [1,0,1,0]=.seq (P23 [1,0,1,0,0]) (P23 [1,0,1,0,1]):=by kernel_rfl
theorem k23_7:P23 [1,0,1,0,0]=.region 2 (O23 [1,0,1,0,0]) false:=by kernel_rfl
theorem r23_2 {M:Mem} {call:CallM} {K:Array Value→Mem→R} :
 opsK Try.prog (fun _=>call) (O23 [1,0,1,0,0]) (O23 [1,0,1,0,0]).toList 0 #[g0,g1,g2,g3,g4,g5,g6,g7,g8,g9,gA,gB,gC,gD,gE,gF,gG,gH,gI,gJ,gK,gL,gM,gN,gO] M K=K #[g0,g1,g2,g3,g4,g5,.int .i64 2,g7,g8,g9,gA,gB,gC,gD,gE,gF,gG,gH,gI,gJ,gK,gL,gM,gN,gO] M:=by kernel_rfl
theorem k23_8:P23 [1,0,1,0,1]=.ret:=by kernel_rfl
theorem e23 {M:Mem}:finish Try.prog Try.f23 #[g0,g1,g2,g3,g4,g5,g6,g7,g8,g9,gA,gB,gC,gD,gE,gF,gG,gH,gI,gJ,gK,gL,gM,gN,gO] M=some (g6,M):=by kernel_rfl
theorem k23_10:P23 [1,0,1,1]=.skip:=by kernel_rfl
theorem k23_11:P23 [1,1]=.seq (P23 [1,1,0]) (P23 [1,1,1]):=by kernel_rfl
theorem k23_12:P23 [1,1,0]=.region 3 (O23 [1,1,0]) false:=by kernel_rfl
theorem r23_3 {x0:Option Addr} {x1 x2:Int} {M:Mem} {call:CallM} {K:Array Value→Mem→R} :
 opsK Try.prog (fun _=>call) (O23 [1,1,0]) (O23 [1,1,0]).toList 0 #[.pointer x0,.int .u32 x1,.int .i64 x2,g3,g4,g5,g6,g7,g8,g9,gA,gB,gC,gD,gE,gF,gG,gH,gI,gJ,gK,gL,gM,gN,gO] M K=(call 49 #[.pointer x0,.int .u64 (IntKind.u64.wrap (x1)),.int .i64 x2] M).bind fun r_1=>K #[.pointer x0,.int .u32 x1,.int .i64 x2,g3,g4,g5,g6,g7,g8,g9,gA,gB,gC,gD,gE,gF,gG,gH,gI,gJ,.pointer x0,.int .u32 x1,.int .u64 (IntKind.u64.wrap (x1)),.int .i64 x2,r_1.1] r_1.2:=by kernel_rfl
theorem k23_13:P23 [1,1,1]=.seq (P23 [1,1,1,0]) (P23 [1,1,1,1]):=by kernel_rfl
theorem k23_14:P23 [1,1,1,0]=.region 4 (O23 [1,1,1,0]) false:=by kernel_rfl
theorem r23_4 {M:Mem} {call:CallM} {K:Array Value→Mem→R} :
 opsK Try.prog (fun _=>call) (O23 [1,1,1,0]) (O23 [1,1,1,0]).toList 0 #[g0,g1,g2,g3,g4,g5,g6,g7,g8,g9,gA,gB,gC,gD,gE,gF,gG,gH,gI,gJ,gK,gL,gM,gN,gO] M K=K #[g0,g1,g2,g3,g4,g5,.int .i64 0,g7,g8,g9,gA,gB,gC,gD,gE,gF,gG,gH,gI,gJ,gK,gL,gM,gN,gO] M:=by kernel_rfl
theorem k23_15:P23 [1,1,1,1]=.ret:=by kernel_rfl
noncomputable def S23_1:List Item:=[.code (P23 [1,0,1]),.code (P23 [1,1])]
def A23_1 (x0:Option Addr) (x1 x2:Int) (x19:Bool) (M:Mem) (Q:Value→Mem→Prop):Prop:=∀ (g3 g4 g5 g6 g7 g8 g9 gA gB gC gD gE gF gG gH gI gK gL gM gN gO:Value),Rn Try.prog Try.f23 S23_1 #[.pointer x0,.int .u32 x1,.int .i64 x2,g3,g4,g5,g6,g7,g8,g9,gA,gB,gC,gD,gE,gF,gG,gH,gI,.bool x19,gK,gL,gM,gN,gO] M Q
theorem w23_0 {x0:Option Addr} {x1 x2:Int} {M:Mem} {Q:Value→Mem→Prop} (H :
 ((x2<0→
 A23_1 x0 x1 x2 true M Q)∧
 (¬(x2<0)→
 ((x2>32→
 A23_1 x0 x1 x2 true M Q)∧
 (¬(x2>32)→
 ∃v1',binV Try.prog .shl 86 3 (.int .u64 1) (.int .i64 x2)=some v1'∧
 ∃x2',asI .u64 v1'=some x2'∧
 A23_1 x0 x1 x2 (decide ((IntKind.u64.wrap (x1))≥x2')) M Q))))):
 Cn Try.prog 23 #[.pointer x0,.int .u32 x1,.int .i64 x2] M Q:=by
  refine Cn.of b23 d23 t23 ?_
  refine Rn.seq k23_0 (Rn.region k23_1 (fun call K=>r23_0) (Rch.leaf (Rn.seq k23_2 (Rn.seq k23_3 (Rn.region k23_4 (fun call K=>r23_1) ?_)))))
  refine Rch.cB (fun h=>?_) (fun h=>?_)
  · replace H:=H.1 (of_decide_eq_true h)
    refine Rch.leaf ?_
    exact H ..
  · replace H:=H.2 (of_decide_eq_false h)
    refine Rch.cB (fun h=>?_) (fun h=>?_)
    · replace H:=H.1 (of_decide_eq_true h)
      refine Rch.leaf ?_
      exact H ..
    · replace H:=H.2 (of_decide_eq_false h)
      refine Rch.ex H fun v1' H=>Rch.ex H fun x2' H=>Rch.leaf ?_
      exact H ..
theorem w23_1 {x0:Option Addr} {x1 x2:Int} {x19:Bool} {M:Mem} {Q:Value→Mem→Prop} (H :
 ((x19=true→
 Q (.int .i64 2) M)∧
 (x19=false→
 Cn Try.prog 49 #[.pointer x0,.int .u64 (IntKind.u64.wrap (x1)),.int .i64 x2] M fun v3' N3'=>
 Q (.int .i64 0) N3'))):
 A23_1 x0 x1 x2 x19 M Q:=by
  iterate 21 intro _
  refine Rn.cnd (v:=x19) ⟨c23_5,rfl,by kernel_rfl⟩ (fun h=>?_) (fun h=>?_)
  · replace H:=H.1 (h)
    refine Rn.seq k23_6 (Rn.region k23_7 (fun call K=>r23_2) (Rch.leaf ?_))
    exact Rn.ret k23_8 e23 H
  · replace H:=H.2 (h)
    refine Rn.skip k23_10 (Rn.seq k23_11 (Rn.region k23_12 (fun call K=>r23_3) (Rch.call H fun v3' N3' H=>Rch.leaf (Rn.seq k23_13 (Rn.region k23_14 (fun call K=>r23_4) (Rch.leaf ?_))))))
    exact Rn.ret k23_15 e23 H
noncomputable abbrev P53 (p:List Nat):Code:=subC (codeOf Try.f53) p
noncomputable abbrev O53 (p:List Nat):Array Oper:=opsOf (subC (codeOf Try.f53) p)
theorem b53:Try.prog.funcs[53]?=some Try.f53∧(Orc.tab Try.prog).lookup 53=none:=⟨by kernel_rfl,by kernel_rfl⟩
theorem d53:Try.f53.body=some (P53 []):=by kernel_rfl
theorem t53 {x0:Option Addr} {x1 x2:Int}:#[.pointer x0,.int .i32 x1,.int .i64 x2] ++ Array.replicate (Try.f53.ntmps-(#[.pointer x0,.int .i32 x1,.int .i64 x2]:Array Value).size) undef=#[.pointer x0,.int .i32 x1,.int .i64 x2,undef,undef,undef,undef,undef,undef,undef,undef,undef,undef,undef,undef,undef,undef,undef,undef,undef,undef,undef,undef,undef,undef,undef,undef,undef,undef,undef,undef,undef,undef,undef,undef,undef,undef]:=by kernel_rfl
theorem k53_0:P53 []=.seq (P53 [0]) (P53 [1]):=by kernel_rfl
theorem k53_1:P53 [0]=.region 0 (O53 [0]) false:=by kernel_rfl
theorem r53_0 {M:Mem} {call:CallM} {K:Array Value→Mem→R} :
 opsK Try.prog (fun _=>call) (O53 [0]) (O53 [0]).toList 0 #[g0,g1,g2,g3,g4,g5,g6,g7,g8,g9,gA,gB,gC,gD,gE,gF,gG,gH,gI,gJ,gK,gL,gM,gN,gO,gP,gQ,gR,gS,gT,gU,gV,gW,gX,gY,gZ,hA] M K=K #[g0,g1,g2,g3,g4,g5,.int .i64 0,g7,g8,g9,gA,gB,gC,gD,gE,gF,gG,gH,gI,gJ,gK,gL,gM,gN,gO,gP,gQ,gR,gS,gT,gU,gV,gW,gX,gY,gZ,hA] M:=by kernel_rfl
theorem k53_2:P53 [1]=.seq (P53 [1,0]) (P53 [1,1]):=by kernel_rfl
theorem k53_3:P53 [1,0]=.region 1 (O53 [1,0]) false:=by kernel_rfl
theorem r53_1 {x1:Int} {M:Mem} {call:CallM} {K:Array Value→Mem→R} :
 opsK Try.prog (fun _=>call) (O53 [1,0]) (O53 [1,0]).toList 0 #[g0,.int .i32 x1,g2,g3,g4,g5,g6,g7,g8,g9,gA,gB,gC,gD,gE,gF,gG,gH,gI,gJ,gK,gL,gM,gN,gO,gP,gQ,gR,gS,gT,gU,gV,gW,gX,gY,gZ,hA] M K=K #[g0,.int .i32 x1,g2,g3,g4,g5,g6,.int .i64 (IntKind.i64.wrap (x1)),.int .i32 x1,.int .i64 (IntKind.i64.wrap (x1)),gA,gB,gC,gD,gE,gF,gG,gH,gI,gJ,gK,gL,gM,gN,gO,gP,gQ,gR,gS,gT,gU,gV,gW,gX,gY,gZ,hA] M:=by kernel_rfl
theorem k53_4:P53 [1,1]=.seq (P53 [1,1,0]) (P53 [1,1,1]):=by kernel_rfl
theorem k53_5:P53 [1,1,0]=.seq (P53 [1,1,0,0]) (P53 [1,1,0,1]):=by kernel_rfl
theorem k53_6:P53 [1,1,0,0]=.region 2 (O53 [1,1,0,0]) false:=by kernel_rfl
theorem r53_2 {x7:Int} {M:Mem} {call:CallM} {K:Array Value→Mem→R} :
 opsK Try.prog (fun _=>call) (O53 [1,1,0,0]) (O53 [1,1,0,0]).toList 0 #[g0,g1,g2,g3,g4,g5,g6,.int .i64 x7,g8,g9,gA,gB,gC,gD,gE,gF,gG,gH,gI,gJ,gK,gL,gM,gN,gO,gP,gQ,gR,gS,gT,gU,gV,gW,gX,gY,gZ,hA] M K=K #[g0,g1,g2,g3,g4,g5,g6,.int .i64 x7,g8,g9,.int .i64 x7,.bool (decide (x7<0)),gC,gD,gE,gF,gG,gH,gI,gJ,gK,gL,gM,gN,gO,gP,gQ,gR,gS,gT,gU,gV,gW,gX,gY,gZ,hA] M:=by kernel_rfl
theorem c53_7:P53 [1,1,0,1]=.cond (.tmp 11) (P53 [1,1,0,1,0]) (P53 [1,1,0,1,1]):=by kernel_rfl
theorem k53_8:P53 [1,1,0,1,0]=.region 3 (O53 [1,1,0,1,0]) false:=by kernel_rfl
theorem r53_3 {x7:Int} {M:Mem} {call:CallM} {K:Array Value→Mem→R} :
 opsK Try.prog (fun _=>call) (O53 [1,1,0,1,0]) (O53 [1,1,0,1,0]).toList 0 #[g0,g1,g2,g3,g4,g5,g6,.int .i64 x7,g8,g9,gA,gB,gC,gD,gE,gF,gG,gH,gI,gJ,gK,gL,gM,gN,gO,gP,gQ,gR,gS,gT,gU,gV,gW,gX,gY,gZ,hA] M K=K #[g0,g1,g2,g3,g4,g5,g6,.int .i64 (IntKind.i64.wrap (0-x7)),g8,g9,gA,gB,.int .i64 x7,.int .i64 (IntKind.i64.wrap (0-x7)),gE,gF,gG,gH,gI,gJ,gK,gL,gM,gN,gO,gP,gQ,gR,gS,gT,gU,gV,gW,gX,gY,gZ,hA] M:=by kernel_rfl
theorem k53_9:P53 [1,1,1]=.seq (P53 [1,1,1,0]) (P53 [1,1,1,1]):=by kernel_rfl
theorem k53_10:P53 [1,1,1,0]=.seq (P53 [1,1,1,0,0]) (P53 [1,1,1,0,1]):=by kernel_rfl
theorem k53_11:P53 [1,1,1,0,0]=.region 4 (O53 [1,1,1,0,0]) false:=by kernel_rfl
theorem r53_4 {x2 x7:Int} {M:Mem} {call:CallM} {K:Array Value→Mem→R} :
 opsK Try.prog (fun _=>call) (O53 [1,1,1,0,0]) (O53 [1,1,1,0,0]).toList 0 #[g0,g1,.int .i64 x2,g3,g4,g5,g6,.int .i64 x7,g8,g9,gA,gB,gC,gD,gE,gF,gG,gH,gI,gJ,gK,gL,gM,gN,gO,gP,gQ,gR,gS,gT,gU,gV,gW,gX,gY,gZ,hA] M K=withK (fun w16 w17 w18 w19 w20 w21 w22 w23 w24 w25 M=>K #[g0,g1,.int .i64 x2,g3,g4,g5,g6,.int .i64 x7,g8,g9,gA,gB,gC,gD,.int .i64 x2,.bool (decide (x2<1)),w16,w17,w18,w19,w20,w21,w22,w23,w24,w25,gQ,gR,gS,gT,gU,gV,gW,gX,gY,gZ,hA] M) fun k=>cond (decide (x2<1)) (k (.bool true) undef undef (.bool true) (.bool true) undef undef undef undef (.bool true) M) (cond (decide (x2>31)) (k (.bool false) (.int .i64 x2) (.bool (decide (x2>31))) (.bool (decide (x2>31))) (.bool true) undef undef undef undef (.bool true) M) ((binV Try.prog .shl 2 3 (.int .i64 1) (.int .i64 x2)).bind fun v_1=>(asI .i64 v_1).bind fun x_2=>k (.bool false) (.int .i64 x2) (.bool (decide (x2>31))) (.bool (decide (x2>31))) (.bool false) (.int .i64 x7) (.int .i64 x2) (.int .i64 x_2) (.bool (decide (x7≥x_2))) (.bool (decide (x7≥x_2))) M)):=by kernel_rfl
theorem k53_12:P53 [1,1,0,1,1]=.skip:=by kernel_rfl
theorem c53_13:P53 [1,1,1,0,1]=.cond (.tmp 25) (P53 [1,1,1,0,1,0]) (P53 [1,1,1,0,1,1]):=by kernel_rfl
theorem k53_14:P53 [1,1,1,0,1,0]=.seq (P53 [1,1,1,0,1,0,0]) (P53 [1,1,1,0,1,0,1]):=by kernel_rfl
theorem k53_15:P53 [1,1,1,0,1,0,0]=.region 5 (O53 [1,1,1,0,1,0,0]) false:=by kernel_rfl
theorem r53_5 {M:Mem} {call:CallM} {K:Array Value→Mem→R} :
 opsK Try.prog (fun _=>call) (O53 [1,1,1,0,1,0,0]) (O53 [1,1,1,0,1,0,0]).toList 0 #[g0,g1,g2,g3,g4,g5,g6,g7,g8,g9,gA,gB,gC,gD,gE,gF,gG,gH,gI,gJ,gK,gL,gM,gN,gO,gP,gQ,gR,gS,gT,gU,gV,gW,gX,gY,gZ,hA] M K=K #[g0,g1,g2,g3,g4,g5,.int .i64 2,g7,g8,g9,gA,gB,gC,gD,gE,gF,gG,gH,gI,gJ,gK,gL,gM,gN,gO,gP,gQ,gR,gS,gT,gU,gV,gW,gX,gY,gZ,hA] M:=by kernel_rfl
theorem k53_16:P53 [1,1,1,0,1,0,1]=.ret:=by kernel_rfl
theorem e53 {M:Mem}:finish Try.prog Try.f53 #[g0,g1,g2,g3,g4,g5,g6,g7,g8,g9,gA,gB,gC,gD,gE,gF,gG,gH,gI,gJ,gK,gL,gM,gN,gO,gP,gQ,gR,gS,gT,gU,gV,gW,gX,gY,gZ,hA] M=some (g6,M):=by kernel_rfl
theorem k53_18:P53 [1,1,1,0,1,1]=.skip:=by kernel_rfl
theorem k53_19:P53 [1,1,1,1]=.seq (P53 [1,1,1,1,0]) (P53 [1,1,1,1,1]):=by kernel_rfl
theorem k53_20:P53 [1,1,1,1,0]=.seq (P53 [1,1,1,1,0,0]) (P53 [1,1,1,1,0,1]):=by kernel_rfl
theorem k53_21:P53 [1,1,1,1,0,0]=.region 6 (O53 [1,1,1,1,0,0]) false:=by kernel_rfl
theorem r53_6 {x1:Int} {M:Mem} {call:CallM} {K:Array Value→Mem→R} :
 opsK Try.prog (fun _=>call) (O53 [1,1,1,1,0,0]) (O53 [1,1,1,1,0,0]).toList 0 #[g0,.int .i32 x1,g2,g3,g4,g5,g6,g7,g8,g9,gA,gB,gC,gD,gE,gF,gG,gH,gI,gJ,gK,gL,gM,gN,gO,gP,gQ,gR,gS,gT,gU,gV,gW,gX,gY,gZ,hA] M K=K #[g0,.int .i32 x1,g2,g3,g4,g5,g6,g7,g8,g9,gA,gB,gC,gD,gE,gF,gG,gH,gI,gJ,gK,gL,gM,gN,gO,gP,.int .i32 x1,.bool (decide (x1<0)),gS,gT,gU,gV,gW,gX,gY,gZ,hA] M:=by kernel_rfl
theorem c53_22:P53 [1,1,1,1,0,1]=.cond (.tmp 27) (P53 [1,1,1,1,0,1,0]) (P53 [1,1,1,1,0,1,1]):=by kernel_rfl
theorem k53_23:P53 [1,1,1,1,0,1,0]=.region 7 (O53 [1,1,1,1,0,1,0]) false:=by kernel_rfl
theorem r53_7 {x0:Option Addr} {M:Mem} {call:CallM} {K:Array Value→Mem→R} :
 opsK Try.prog (fun _=>call) (O53 [1,1,1,1,0,1,0]) (O53 [1,1,1,1,0,1,0]).toList 0 #[.pointer x0,g1,g2,g3,g4,g5,g6,g7,g8,g9,gA,gB,gC,gD,gE,gF,gG,gH,gI,gJ,gK,gL,gM,gN,gO,gP,gQ,gR,gS,gT,gU,gV,gW,gX,gY,gZ,hA] M K=(call 49 #[.pointer x0,.int .u64 1,.int .i64 1] M).bind fun r_1=>K #[.pointer x0,g1,g2,g3,g4,g5,g6,g7,g8,g9,gA,gB,gC,gD,gE,gF,gG,gH,gI,gJ,gK,gL,gM,gN,gO,gP,gQ,gR,.pointer x0,r_1.1,gU,gV,gW,gX,gY,gZ,hA] r_1.2:=by kernel_rfl
theorem k53_24:P53 [1,1,1,1,1]=.seq (P53 [1,1,1,1,1,0]) (P53 [1,1,1,1,1,1]):=by kernel_rfl
theorem k53_25:P53 [1,1,1,1,1,0]=.region 9 (O53 [1,1,1,1,1,0]) false:=by kernel_rfl
theorem r53_9 {x0:Option Addr} {x2 x7:Int} {M:Mem} {call:CallM} {K:Array Value→Mem→R} :
 opsK Try.prog (fun _=>call) (O53 [1,1,1,1,1,0]) (O53 [1,1,1,1,1,0]).toList 0 #[.pointer x0,g1,.int .i64 x2,g3,g4,g5,g6,.int .i64 x7,g8,g9,gA,gB,gC,gD,gE,gF,gG,gH,gI,gJ,gK,gL,gM,gN,gO,gP,gQ,gR,gS,gT,gU,gV,gW,gX,gY,gZ,hA] M K=(call 49 #[.pointer x0,.int .u64 (IntKind.u64.wrap (x7)),.int .i64 x2] M).bind fun r_1=>K #[.pointer x0,g1,.int .i64 x2,g3,g4,g5,g6,.int .i64 x7,g8,g9,gA,gB,gC,gD,gE,gF,gG,gH,gI,gJ,gK,gL,gM,gN,gO,gP,gQ,gR,gS,gT,gU,gV,.pointer x0,.int .i64 x7,.int .u64 (IntKind.u64.wrap (x7)),.int .i64 x2,r_1.1] r_1.2:=by kernel_rfl
theorem k53_26:P53 [1,1,1,1,1,1]=.seq (P53 [1,1,1,1,1,1,0]) (P53 [1,1,1,1,1,1,1]):=by kernel_rfl
theorem k53_27:P53 [1,1,1,1,1,1,0]=.region 10 (O53 [1,1,1,1,1,1,0]) false:=by kernel_rfl
theorem r53_10 {M:Mem} {call:CallM} {K:Array Value→Mem→R} :
 opsK Try.prog (fun _=>call) (O53 [1,1,1,1,1,1,0]) (O53 [1,1,1,1,1,1,0]).toList 0 #[g0,g1,g2,g3,g4,g5,g6,g7,g8,g9,gA,gB,gC,gD,gE,gF,gG,gH,gI,gJ,gK,gL,gM,gN,gO,gP,gQ,gR,gS,gT,gU,gV,gW,gX,gY,gZ,hA] M K=K #[g0,g1,g2,g3,g4,g5,.int .i64 0,g7,g8,g9,gA,gB,gC,gD,gE,gF,gG,gH,gI,gJ,gK,gL,gM,gN,gO,gP,gQ,gR,gS,gT,gU,gV,gW,gX,gY,gZ,hA] M:=by kernel_rfl
theorem k53_28:P53 [1,1,1,1,1,1,1]=.ret:=by kernel_rfl
theorem k53_29:P53 [1,1,1,1,0,1,1]=.region 8 (O53 [1,1,1,1,0,1,1]) false:=by kernel_rfl
theorem r53_8 {x0:Option Addr} {M:Mem} {call:CallM} {K:Array Value→Mem→R} :
 opsK Try.prog (fun _=>call) (O53 [1,1,1,1,0,1,1]) (O53 [1,1,1,1,0,1,1]).toList 0 #[.pointer x0,g1,g2,g3,g4,g5,g6,g7,g8,g9,gA,gB,gC,gD,gE,gF,gG,gH,gI,gJ,gK,gL,gM,gN,gO,gP,gQ,gR,gS,gT,gU,gV,gW,gX,gY,gZ,hA] M K=(call 49 #[.pointer x0,.int .u64 0,.int .i64 1] M).bind fun r_1=>K #[.pointer x0,g1,g2,g3,g4,g5,g6,g7,g8,g9,gA,gB,gC,gD,gE,gF,gG,gH,gI,gJ,gK,gL,gM,gN,gO,gP,gQ,gR,gS,gT,.pointer x0,r_1.1,gW,gX,gY,gZ,hA] r_1.2:=by kernel_rfl
noncomputable def S53_1:List Item:=[.code (P53 [1,1,1,0,1]),.code (P53 [1,1,1,1])]
def A53_1 (x0:Option Addr) (x1 x2 x7:Int) (x25:Bool) (M:Mem) (Q:Value→Mem→Prop):Prop:=∀ (g3 g4 g5 g6 g8 g9 gA gB gC gD gE gF gG gH gI gJ gK gL gM gN gO gQ gR gS gT gU gV gW gX gY gZ hA:Value),Rn Try.prog Try.f53 S53_1 #[.pointer x0,.int .i32 x1,.int .i64 x2,g3,g4,g5,g6,.int .i64 x7,g8,g9,gA,gB,gC,gD,gE,gF,gG,gH,gI,gJ,gK,gL,gM,gN,gO,.bool x25,gQ,gR,gS,gT,gU,gV,gW,gX,gY,gZ,hA] M Q
theorem w53_0 {x0:Option Addr} {x1 x2:Int} {M:Mem} {Q:Value→Mem→Prop} (H :
 (((IntKind.i64.wrap (x1))<0→
 ((x2<1→
 A53_1 x0 x1 x2 (IntKind.i64.wrap (0-(IntKind.i64.wrap (x1)))) true M Q)∧
 (¬(x2<1)→
 ((x2>31→
 A53_1 x0 x1 x2 (IntKind.i64.wrap (0-(IntKind.i64.wrap (x1)))) true M Q)∧
 (¬(x2>31)→
 ∃v1',binV Try.prog .shl 2 3 (.int .i64 1) (.int .i64 x2)=some v1'∧
 ∃x2',asI .i64 v1'=some x2'∧
 A53_1 x0 x1 x2 (IntKind.i64.wrap (0-(IntKind.i64.wrap (x1)))) (decide ((IntKind.i64.wrap (0-(IntKind.i64.wrap (x1))))≥x2')) M Q)))))∧
 (¬((IntKind.i64.wrap (x1))<0)→
 ((x2<1→
 A53_1 x0 x1 x2 (IntKind.i64.wrap (x1)) true M Q)∧
 (¬(x2<1)→
 ((x2>31→
 A53_1 x0 x1 x2 (IntKind.i64.wrap (x1)) true M Q)∧
 (¬(x2>31)→
 ∃v3',binV Try.prog .shl 2 3 (.int .i64 1) (.int .i64 x2)=some v3'∧
 ∃x4',asI .i64 v3'=some x4'∧
 A53_1 x0 x1 x2 (IntKind.i64.wrap (x1)) (decide ((IntKind.i64.wrap (x1))≥x4')) M Q))))))):
 Cn Try.prog 53 #[.pointer x0,.int .i32 x1,.int .i64 x2] M Q:=by
  refine Cn.of b53 d53 t53 ?_
  refine Rn.seq k53_0 (Rn.region k53_1 (fun call K=>r53_0) (Rch.leaf (Rn.seq k53_2 (Rn.region k53_3 (fun call K=>r53_1) (Rch.leaf (Rn.seq k53_4 (Rn.seq k53_5 (Rn.region k53_6 (fun call K=>r53_2) (Rch.leaf ?_)))))))))
  refine Rn.cnd (v:=decide ((IntKind.i64.wrap (x1))<0)) ⟨c53_7,rfl,by kernel_rfl⟩ (fun h=>?_) (fun h=>?_)
  · replace H:=H.1 (of_decide_eq_true h)
    refine Rn.region k53_8 (fun call K=>r53_3) (Rch.leaf (Rn.seq k53_9 (Rn.seq k53_10 (Rn.region k53_11 (fun call K=>r53_4) ?_))))
    refine Rch.cB (fun h=>?_) (fun h=>?_)
    · replace H:=H.1 (of_decide_eq_true h)
      refine Rch.leaf ?_
      exact H ..
    · replace H:=H.2 (of_decide_eq_false h)
      refine Rch.cB (fun h=>?_) (fun h=>?_)
      · replace H:=H.1 (of_decide_eq_true h)
        refine Rch.leaf ?_
        exact H ..
      · replace H:=H.2 (of_decide_eq_false h)
        refine Rch.ex H fun v1' H=>Rch.ex H fun x2' H=>Rch.leaf ?_
        exact H ..
  · replace H:=H.2 (of_decide_eq_false h)
    refine Rn.skip k53_12 (Rn.seq k53_9 (Rn.seq k53_10 (Rn.region k53_11 (fun call K=>r53_4) ?_)))
    refine Rch.cB (fun h=>?_) (fun h=>?_)
    · replace H:=H.1 (of_decide_eq_true h)
      refine Rch.leaf ?_
      exact H ..
    · replace H:=H.2 (of_decide_eq_false h)
      refine Rch.cB (fun h=>?_) (fun h=>?_)
      · replace H:=H.1 (of_decide_eq_true h)
        refine Rch.leaf ?_
        exact H ..
      · replace H:=H.2 (of_decide_eq_false h)
        refine Rch.ex H fun v3' H=>Rch.ex H fun x4' H=>Rch.leaf ?_
        exact H ..
theorem w53_1 {x0:Option Addr} {x1 x2 x7:Int} {x25:Bool} {M:Mem} {Q:Value→Mem→Prop} (H :
 ((x25=true→
 Q (.int .i64 2) M)∧
 (x25=false→
 ((x1<0→
 Cn Try.prog 49 #[.pointer x0,.int .u64 1,.int .i64 1] M fun v5' N5'=>
 Cn Try.prog 49 #[.pointer x0,.int .u64 (IntKind.u64.wrap (x7)),.int .i64 x2] N5' fun v6' N6'=>
 Q (.int .i64 0) N6')∧
 (¬(x1<0)→
 Cn Try.prog 49 #[.pointer x0,.int .u64 0,.int .i64 1] M fun v7' N7'=>
 Cn Try.prog 49 #[.pointer x0,.int .u64 (IntKind.u64.wrap (x7)),.int .i64 x2] N7' fun v8' N8'=>
 Q (.int .i64 0) N8'))))):
 A53_1 x0 x1 x2 x7 x25 M Q:=by
  iterate 32 intro _
  refine Rn.cnd (v:=x25) ⟨c53_13,rfl,by kernel_rfl⟩ (fun h=>?_) (fun h=>?_)
  · replace H:=H.1 (h)
    refine Rn.seq k53_14 (Rn.region k53_15 (fun call K=>r53_5) (Rch.leaf ?_))
    exact Rn.ret k53_16 e53 H
  · replace H:=H.2 (h)
    refine Rn.skip k53_18 (Rn.seq k53_19 (Rn.seq k53_20 (Rn.region k53_21 (fun call K=>r53_6) (Rch.leaf ?_))))
    refine Rn.cnd (v:=decide (x1<0)) ⟨c53_22,rfl,by kernel_rfl⟩ (fun h=>?_) (fun h=>?_)
    · replace H:=H.1 (of_decide_eq_true h)
      refine Rn.region k53_23 (fun call K=>r53_7) (Rch.call H fun v5' N5' H=>Rch.leaf (Rn.seq k53_24 (Rn.region k53_25 (fun call K=>r53_9) (Rch.call H fun v6' N6' H=>Rch.leaf (Rn.seq k53_26 (Rn.region k53_27 (fun call K=>r53_10) (Rch.leaf ?_)))))))
      exact Rn.ret k53_28 e53 H
    · replace H:=H.2 (of_decide_eq_false h)
      refine Rn.region k53_29 (fun call K=>r53_8) (Rch.call H fun v7' N7' H=>Rch.leaf (Rn.seq k53_24 (Rn.region k53_25 (fun call K=>r53_9) (Rch.call H fun v8' N8' H=>Rch.leaf (Rn.seq k53_26 (Rn.region k53_27 (fun call K=>r53_10) (Rch.leaf ?_)))))))
      exact Rn.ret k53_28 e53 H
noncomputable abbrev P20 (p:List Nat):Code:=subC (codeOf Try.f20) p
noncomputable abbrev O20 (p:List Nat):Array Oper:=opsOf (subC (codeOf Try.f20) p)
theorem b20:Try.prog.funcs[20]?=some Try.f20∧(Orc.tab Try.prog).lookup 20=none:=⟨by kernel_rfl,by kernel_rfl⟩
theorem d20:Try.f20.body=some (P20 []):=by kernel_rfl
theorem t20:#[] ++ Array.replicate (Try.f20.ntmps-(#[]:Array Value).size) undef=#[undef,undef,undef]:=by kernel_rfl
theorem k20_0:P20 []=.seq (P20 [0]) (P20 [1]):=by kernel_rfl
theorem k20_1:P20 [0]=.region 0 (O20 [0]) false:=by kernel_rfl
theorem r20_0 {M:Mem} {call:CallM} {K:Array Value→Mem→R} :
 opsK Try.prog (fun _=>call) (O20 [0]) (O20 [0]).toList 0 #[g0,g1,g2] M K=K #[.pointer none,g1,g2] M:=by kernel_rfl
theorem k20_2:P20 [1]=.seq (P20 [1,0]) (P20 [1,1]):=by kernel_rfl
theorem k20_3:P20 [1,0]=.region 1 (O20 [1,0]) false:=by kernel_rfl
theorem r20_1 {M:Mem} {call:CallM} {K:Array Value→Mem→R} :
 opsK Try.prog (fun _=>call) (O20 [1,0]) (O20 [1,0]).toList 0 #[g0,g1,g2] M K=K #[.pointer (some ⟨2*M.nb.size,0,none⟩),.agg #[.slice none 0 0],.pointer (some ⟨2*M.nb.size,0,none⟩)] (M.new (.cells #[.slice none 0 0] 83)):=by kernel_rfl
theorem k20_4:P20 [1,1]=.ret:=by kernel_rfl
theorem e20 {M:Mem}:finish Try.prog Try.f20 #[g0,g1,g2] M=some (g0,M):=by kernel_rfl
theorem w20_0 {M:Mem} {Q:Value→Mem→Prop} (H :
 Q (.pointer (some ⟨2*M.nb.size,0,none⟩)) (M.new (.cells #[.slice none 0 0] 83))):
 Cn Try.prog 20 #[] M Q:=by
  refine Cn.of b20 d20 t20 ?_
  refine Rn.seq k20_0 (Rn.region k20_1 (fun call K=>r20_0) (Rch.leaf (Rn.seq k20_2 (Rn.region k20_3 (fun call K=>r20_1) (Rch.leaf ?_)))))
  exact Rn.ret k20_4 e20 H
noncomputable abbrev P29 (p:List Nat):Code:=subC (codeOf Try.f29) p
noncomputable abbrev O29 (p:List Nat):Array Oper:=opsOf (subC (codeOf Try.f29) p)
theorem b29:Try.prog.funcs[29]?=some Try.f29∧(Orc.tab Try.prog).lookup 29=none:=⟨by kernel_rfl,by kernel_rfl⟩
theorem d29:Try.f29.body=some (P29 []):=by kernel_rfl
theorem t29 {x0:Option Addr}:#[.pointer x0] ++ Array.replicate (Try.f29.ntmps-(#[.pointer x0]:Array Value).size) undef=#[.pointer x0,undef,undef,undef,undef,undef,undef,undef]:=by kernel_rfl
theorem k29_0:P29 []=.seq (P29 [0]) (P29 [1]):=by kernel_rfl
theorem k29_1:P29 [0]=.region 0 (O29 [0]) false:=by kernel_rfl
theorem r29_0 {M:Mem} {call:CallM} {K:Array Value→Mem→R} :
 opsK Try.prog (fun _=>call) (O29 [0]) (O29 [0]).toList 0 #[g0,g1,g2,g3,g4,g5,g6,g7] M K=K #[g0,g1,.slice none 0 0,g3,g4,g5,g6,g7] M:=by kernel_rfl
theorem k29_2:P29 [1]=.seq (P29 [1,0]) (P29 [1,1]):=by kernel_rfl
theorem k29_3:P29 [1,0]=.region 1 (O29 [1,0]) false:=by kernel_rfl
theorem r29_1 {x0:Option Addr} {M:Mem} {call:CallM} {K:Array Value→Mem→R} :
 opsK Try.prog (fun _=>call) (O29 [1,0]) (O29 [1,0]).toList 0 #[.pointer x0,g1,g2,g3,g4,g5,g6,g7] M K=(x0).bind fun a_1=>(M.slAt a_1.block a_1.off).bind fun s_2=>(call 62 #[.slice s_2.1 (s_2.2.1) (s_2.2.2)] M).bind fun r_3=>(asS r_3.1).bind fun s_4=>K #[.pointer x0,g1,.slice s_4.1 (s_4.2.1) (s_4.2.2),.pointer x0,.pointer (some a_1),.pointer (some ⟨a_1.block,a_1.off,none⟩),.slice s_2.1 (s_2.2.1) (s_2.2.2),.slice s_4.1 (s_4.2.1) (s_4.2.2)] r_3.2:=by kernel_rfl
theorem k29_4:P29 [1,1]=.ret:=by kernel_rfl
theorem e29 {M:Mem}:finish Try.prog Try.f29 #[g0,g1,g2,g3,g4,g5,g6,g7] M=some (g2,M):=by kernel_rfl
theorem w29_0 {x0:Option Addr} {M:Mem} {Q:Value→Mem→Prop} (H :
 ∃a1',x0=some a1'∧
 ∃s2',M.slAt a1'.block a1'.off=some s2'∧
 Cn Try.prog 62 #[.slice s2'.1 (s2'.2.1) (s2'.2.2)] M fun v3' N3'=>
 ∃s4',asS v3'=some s4'∧
 Q (.slice s4'.1 (s4'.2.1) (s4'.2.2)) N3'):
 Cn Try.prog 29 #[.pointer x0] M Q:=by
  refine Cn.of b29 d29 t29 ?_
  refine Rn.seq k29_0 (Rn.region k29_1 (fun call K=>r29_0) (Rch.leaf (Rn.seq k29_2 (Rn.region k29_3 (fun call K=>r29_1) (Rch.ex H fun a1' H=>Rch.ex H fun s2' H=>Rch.call H fun v3' N3' H=>Rch.ex H fun s4' H=>Rch.leaf ?_)))))
  exact Rn.ret k29_4 e29 H
end Go.Zt
