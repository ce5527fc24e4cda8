/- The functions' walks: for each function and each loop a rule of what it comes to. Printed by zw.py. -/
import Derived.Test.YtnhfoiijkadajaaProg
import Derived.Test.YtnhfoiijkadajaaZeA
set_option linter.unusedVariables false
set_option maxRecDepth 100000
namespace Go.Zt
open Go Go.Sim Go.Proofs
variable {g0 g1 g2 g3 g4 g5 g6 g7 g8 g9 gA gB gC gD gE gF gG gH gI gJ gK gL gM gN gO gP gQ gR gS gT gU gV gW gX gY gZ hA hB hC hD hE hF hG hH hI hJ hK hL hM hN hO hP hQ hR hS hT hU hV hW hX hY hZ h0 h1 h2 h3:Value}
noncomputable abbrev P5 (p:List Nat):Code:=subC (codeOf Try.f5) p
noncomputable abbrev O5 (p:List Nat):Array Oper:=opsOf (subC (codeOf Try.f5) p)
theorem b5:Try.prog.funcs[5]?=some Try.f5∧(Orc.tab Try.prog).lookup 5=none:=⟨by kernel_rfl,by kernel_rfl⟩
theorem d5:Try.f5.body=some (P5 []):=by kernel_rfl
theorem t5 {x0_0 x0_1 x1_0 x1_1 x2_0 x2_1 x2_2 x2_3:Int}:#[.agg #[.int .i64 x0_0,.int .i64 x0_1],.agg #[.int .i64 x1_0,.int .i64 x1_1],.agg #[.int .i64 x2_0,.int .i64 x2_1,.int .i64 x2_2,.int .i64 x2_3]] ++ Array.replicate (Try.f5.ntmps-(#[.agg #[.int .i64 x0_0,.int .i64 x0_1],.agg #[.int .i64 x1_0,.int .i64 x1_1],.agg #[.int .i64 x2_0,.int .i64 x2_1,.int .i64 x2_2,.int .i64 x2_3]]:Array Value).size) undef=#[.agg #[.int .i64 x0_0,.int .i64 x0_1],.agg #[.int .i64 x1_0,.int .i64 x1_1],.agg #[.int .i64 x2_0,.int .i64 x2_1,.int .i64 x2_2,.int .i64 x2_3],undef,undef,undef,undef,undef,undef,undef,undef,undef,undef,undef,undef,undef,undef,undef,undef,undef,undef,undef,undef,undef,undef,undef,undef,undef,undef,undef,undef,undef,undef,undef,undef,undef,undef,undef,undef,undef,undef,undef,undef,undef,undef,undef,undef,undef,undef,undef,undef,undef,undef,undef,undef,undef,undef,undef,undef,undef,undef,undef,undef,undef,undef,undef]:=by kernel_rfl
theorem k5_0:P5 []=.seq (P5 [0]) (P5 [1]):=by kernel_rfl
theorem k5_1:P5 [0]=.region 0 (O5 [0]) false:=by kernel_rfl
theorem r5_0 {x0_0 x0_1 x1_0 x1_1 x2_0 x2_1 x2_2 x2_3:Int} {M:Mem} {call:CallM} {K:Array Value→Mem→R} :
 opsK Try.prog (fun _=>call) (O5 [0]) (O5 [0]).toList 0 #[.agg #[.int .i64 x0_0,.int .i64 x0_1],.agg #[.int .i64 x1_0,.int .i64 x1_1],.agg #[.int .i64 x2_0,.int .i64 x2_1,.int .i64 x2_2,.int .i64 x2_3],g3,g4,g5,g6,g7,g8,g9,gA,gB,gC,gD,gE,gF,gG,gH,gI,gJ,gK,gL,gM,gN,gO,gP,gQ,gR,gS,gT,gU,gV,gW,gX,gY,gZ,hA,hB,hC,hD,hE,hF,hG,hH,hI,hJ,hK,hL,hM,hN,hO,hP,hQ,hR,hS,hT,hU,hV,hW,hX,hY,hZ,h0,h1,h2,h3] M K=K #[.agg #[.int .i64 x0_0,.int .i64 x0_1],.agg #[.int .i64 x1_0,.int .i64 x1_1],.agg #[.int .i64 x2_0,.int .i64 x2_1,.int .i64 x2_2,.int .i64 x2_3],.pointer (some ⟨2*M.nb.size,0,none⟩),.pointer (some ⟨2*(M.new (.cells #[.int .i64 x0_0,.int .i64 x0_1] 32)).nb.size,0,none⟩),.pointer (some ⟨2*((M.new (.cells #[.int .i64 x0_0,.int .i64 x0_1] 32)).new (.cells #[.int .i64 x1_0,.int .i64 x1_1] 33)).nb.size,0,none⟩),.bool false,g7,g8,g9,gA,gB,gC,gD,gE,gF,gG,gH,gI,gJ,gK,gL,gM,gN,gO,gP,gQ,gR,gS,gT,gU,gV,gW,gX,gY,gZ,hA,hB,hC,hD,hE,hF,hG,hH,hI,hJ,hK,hL,hM,hN,hO,hP,hQ,hR,hS,hT,hU,hV,hW,hX,hY,hZ,h0,h1,h2,h3] (((M.new (.cells #[.int .i64 x0_0,.int .i64 x0_1] 32)).new (.cells #[.int .i64 x1_0,.int .i64 x1_1] 33)).new (.cells #[.int .i64 x2_0,.int .i64 x2_1,.int .i64 x2_2,.int .i64 x2_3] 35)):=by kernel_rfl
theorem k5_2:P5 [1]=.seq (P5 [1,0]) (P5 [1,1]):=by kernel_rfl
theorem k5_3:P5 [1,0]=.region 1 (O5 [1,0]) false:=by kernel_rfl
theorem r5_1 {x3 x4:Option Addr} {M:Mem} {call:CallM} {K:Array Value→Mem→R} :
 opsK Try.prog (fun _=>call) (O5 [1,0]) (O5 [1,0]).toList 0 #[g0,g1,g2,.pointer x3,.pointer x4,g5,g6,g7,g8,g9,gA,gB,gC,gD,gE,gF,gG,gH,gI,gJ,gK,gL,gM,gN,gO,gP,gQ,gR,gS,gT,gU,gV,gW,gX,gY,gZ,hA,hB,hC,hD,hE,hF,hG,hH,hI,hJ,hK,hL,hM,hN,hO,hP,hQ,hR,hS,hT,hU,hV,hW,hX,hY,hZ,h0,h1,h2,h3] M K=(x3).bind fun a_1=>(M.intAt .i64 a_1.block a_1.off).bind fun x_2=>(M.intAt .i64 a_1.block (a_1.off+1)).bind fun x_3=>(idxA x4 2 1 0).bind fun a_4=>(M.intAt .i64 a_4.block a_4.off).bind fun x_5=>(idxA x4 2 1 1).bind fun a_6=>(M.intAt .i64 a_6.block a_6.off).bind fun x_7=>(call 16 #[.agg #[.int .i64 x_2,.int .i64 x_3],.int .i64 x_5,.int .i64 x_7] M).bind fun r_8=>(asU 2 r_8.1).bind fun cs_9=>(asS (cs_9.getD 0 undef)).bind fun s_10=>(asI .i64 (cs_9.getD 1 undef)).bind fun x_11=>K #[g0,g1,g2,.pointer x3,.pointer x4,g5,g6,.slice s_10.1 (s_10.2.1) (s_10.2.2),.int .i64 x_11,g9,gA,gB,.tuple #[.slice s_10.1 (s_10.2.1) (s_10.2.2),.int .i64 x_11],.agg #[.int .i64 x_2,.int .i64 x_3],.pointer (some a_4),.int .i64 x_5,.pointer (some a_6),.int .i64 x_7,.tuple #[.slice s_10.1 (s_10.2.1) (s_10.2.2),.int .i64 x_11],.slice s_10.1 (s_10.2.1) (s_10.2.2),.int .i64 x_11,gL,gM,gN,gO,gP,gQ,gR,gS,gT,gU,gV,gW,gX,gY,gZ,hA,hB,hC,hD,hE,hF,hG,hH,hI,hJ,hK,hL,hM,hN,hO,hP,hQ,hR,hS,hT,hU,hV,hW,hX,hY,hZ,h0,h1,h2,h3] r_8.2:=by kernel_rfl
theorem k5_4:P5 [1,1]=.seq (P5 [1,1,0]) (P5 [1,1,1]):=by kernel_rfl
theorem k5_5:P5 [1,1,0]=.region 2 (O5 [1,1,0]) false:=by kernel_rfl
theorem r5_2 {x3 x4:Option Addr} {M:Mem} {call:CallM} {K:Array Value→Mem→R} :
 opsK Try.prog (fun _=>call) (O5 [1,1,0]) (O5 [1,1,0]).toList 0 #[g0,g1,g2,.pointer x3,.pointer x4,g5,g6,g7,g8,g9,gA,gB,gC,gD,gE,gF,gG,gH,gI,gJ,gK,gL,gM,gN,gO,gP,gQ,gR,gS,gT,gU,gV,gW,gX,gY,gZ,hA,hB,hC,hD,hE,hF,hG,hH,hI,hJ,hK,hL,hM,hN,hO,hP,hQ,hR,hS,hT,hU,hV,hW,hX,hY,hZ,h0,h1,h2,h3] M K=(x3).bind fun a_1=>(M.intAt .i64 a_1.block a_1.off).bind fun x_2=>(M.intAt .i64 a_1.block (a_1.off+1)).bind fun x_3=>(idxA x4 2 1 0).bind fun a_4=>(M.intAt .i64 a_4.block a_4.off).bind fun x_5=>(idxA x4 2 1 1).bind fun a_6=>(M.intAt .i64 a_6.block a_6.off).bind fun x_7=>(call 17 #[.agg #[.int .i64 x_2,.int .i64 x_3],.int .i64 x_5,.int .i64 x_7] M).bind fun r_8=>(asU 2 r_8.1).bind fun cs_9=>(asS (cs_9.getD 0 undef)).bind fun s_10=>(asI .i64 (cs_9.getD 1 undef)).bind fun x_11=>K #[g0,g1,g2,.pointer x3,.pointer x4,g5,g6,g7,g8,.slice s_10.1 (s_10.2.1) (s_10.2.2),.int .i64 x_11,gB,gC,gD,gE,gF,gG,gH,gI,gJ,gK,.tuple #[.slice s_10.1 (s_10.2.1) (s_10.2.2),.int .i64 x_11],.agg #[.int .i64 x_2,.int .i64 x_3],.pointer (some a_4),.int .i64 x_5,.pointer (some a_6),.int .i64 x_7,.tuple #[.slice s_10.1 (s_10.2.1) (s_10.2.2),.int .i64 x_11],.slice s_10.1 (s_10.2.1) (s_10.2.2),.int .i64 x_11,gU,gV,gW,gX,gY,gZ,hA,hB,hC,hD,hE,hF,hG,hH,hI,hJ,hK,hL,hM,hN,hO,hP,hQ,hR,hS,hT,hU,hV,hW,hX,hY,hZ,h0,h1,h2,h3] r_8.2:=by kernel_rfl
theorem k5_6:P5 [1,1,1]=.seq (P5 [1,1,1,0]) (P5 [1,1,1,1]):=by kernel_rfl
theorem k5_7:P5 [1,1,1,0]=.seq (P5 [1,1,1,0,0]) (P5 [1,1,1,0,1]):=by kernel_rfl
theorem k5_8:P5 [1,1,1,0,0]=.region 3 (O5 [1,1,1,0,0]) true∧drawOk (O5 [1,1,1,0,0])=true:=⟨by kernel_rfl,by kernel_rfl⟩
theorem r5_3 {x5 Y7:Option Addr} {l7 y7:Nat} {x8:Int} {Y9:Option Addr} {l9 y9:Nat} {x10:Int} {M:Mem} {call:CallM} {K:Array Value→Mem→R} :
    opsI Try.prog (callAt call (O5 [1,1,1,0,0])) (O5 [1,1,1,0,0]) (ordOf (O5 [1,1,1,0,0])) [] #[g0,g1,g2,g3,g4,.pointer x5,g6,.slice Y7 l7 y7,.int .i64 x8,.slice Y9 l9 y9,.int .i64 x10,gB,gC,gD,gE,gF,gG,gH,gI,gJ,gK,gL,gM,gN,gO,gP,gQ,gR,gS,gT,gU,gV,gW,gX,gY,gZ,hA,hB,hC,hD,hE,hF,hG,hH,hI,hJ,hK,hL,hM,hN,hO,hP,hQ,hR,hS,hT,hU,hV,hW,hX,hY,hZ,h0,h1,h2,h3] M K=withK (fun w33 w34 w35 w36 w37 w38 w39 w40 w41 w42 w43 w44 w45 w46 M=>K #[g0,g1,g2,g3,g4,.pointer x5,g6,.slice Y7 l7 y7,.int .i64 x8,.slice Y9 l9 y9,.int .i64 x10,gB,gC,gD,gE,gF,gG,gH,gI,gJ,gK,gL,gM,gN,gO,gP,gQ,gR,gS,gT,.int .i64 x8,.int .i64 x10,.bool (x8 != x10),w33,w34,w35,w36,w37,w38,w39,w40,w41,w42,w43,w44,w45,w46,hL,hM,hN,hO,hP,hQ,hR,hS,hT,hU,hV,hW,hX,hY,hZ,h0,h1,h2,h3] M) fun k=>cond (x8 != x10) (k (.bool true) undef undef undef undef (.bool true) (.bool true) undef undef undef undef undef undef (.bool true) M) ((call 18 #[.slice Y7 l7 y7,.slice Y9 l9 y9] M).bind fun r_1=>(asB r_1.1).bind fun b_2=>cond (!b_2) (k (.bool false) (.slice Y7 l7 y7) (.slice Y9 l9 y9) (.bool b_2) (.bool (!b_2)) (.bool (!b_2)) (.bool true) undef undef undef undef undef undef (.bool true) r_1.2) ((x5).bind fun a_3=>(r_1.2.intAt .i64 a_3.block a_3.off).bind fun x_4=>(r_1.2.intAt .i64 a_3.block (a_3.off+1)).bind fun x_5=>(r_1.2.intAt .i64 a_3.block (a_3.off+2)).bind fun x_6=>(r_1.2.intAt .i64 a_3.block (a_3.off+3)).bind fun x_7=>(x5).bind fun a_8=>(r_1.2.intAt .i64 a_8.block a_8.off).bind fun x_9=>(r_1.2.intAt .i64 a_8.block (a_8.off+1)).bind fun x_10=>(r_1.2.intAt .i64 a_8.block (a_8.off+2)).bind fun x_11=>(r_1.2.intAt .i64 a_8.block (a_8.off+3)).bind fun x_12=>(floored call 19 #[.agg #[.int .i64 x_4,.int .i64 x_5,.int .i64 x_6,.int .i64 x_7]] r_1.2).bind fun r_13=>(asS r_13.1).bind fun s_14=>(call 20 #[.agg #[.int .i64 x_9,.int .i64 x_10,.int .i64 x_11,.int .i64 x_12]] r_13.2).bind fun r_15=>(asS r_15.1).bind fun s_16=>(call 18 #[.slice s_14.1 (s_14.2.1) (s_14.2.2),.slice s_16.1 (s_16.2.1) (s_16.2.2)] r_15.2).bind fun r_17=>(asB r_17.1).bind fun b_18=>k (.bool false) (.slice Y7 l7 y7) (.slice Y9 l9 y9) (.bool b_2) (.bool (!b_2)) (.bool (!b_2)) (.bool false) (.agg #[.int .i64 x_4,.int .i64 x_5,.int .i64 x_6,.int .i64 x_7]) (.slice s_14.1 (s_14.2.1) (s_14.2.2)) (.agg #[.int .i64 x_9,.int .i64 x_10,.int .i64 x_11,.int .i64 x_12]) (.slice s_16.1 (s_16.2.1) (s_16.2.2)) (.bool b_18) (.bool (!b_18)) (.bool (!b_18)) r_17.2)):=by kernel_rfl
theorem c5_9:P5 [1,1,1,0,1]=.cond (.tmp 46) (P5 [1,1,1,0,1,0]) (P5 [1,1,1,0,1,1]):=by kernel_rfl
theorem k5_10:P5 [1,1,1,0,1,0]=.seq (P5 [1,1,1,0,1,0,0]) (P5 [1,1,1,0,1,0,1]):=by kernel_rfl
theorem k5_11:P5 [1,1,1,0,1,0,0]=.region 4 (O5 [1,1,1,0,1,0,0]) false:=by kernel_rfl
theorem r5_4 {M:Mem} {call:CallM} {K:Array Value→Mem→R} :
 opsK Try.prog (fun _=>call) (O5 [1,1,1,0,1,0,0]) (O5 [1,1,1,0,1,0,0]).toList 0 #[g0,g1,g2,g3,g4,g5,g6,g7,g8,g9,gA,gB,gC,gD,gE,gF,gG,gH,gI,gJ,gK,gL,gM,gN,gO,gP,gQ,gR,gS,gT,gU,gV,gW,gX,gY,gZ,hA,hB,hC,hD,hE,hF,hG,hH,hI,hJ,hK,hL,hM,hN,hO,hP,hQ,hR,hS,hT,hU,hV,hW,hX,hY,hZ,h0,h1,h2,h3] M K=K #[g0,g1,g2,g3,g4,g5,.bool false,g7,g8,g9,gA,gB,gC,gD,gE,gF,gG,gH,gI,gJ,gK,gL,gM,gN,gO,gP,gQ,gR,gS,gT,gU,gV,gW,gX,gY,gZ,hA,hB,hC,hD,hE,hF,hG,hH,hI,hJ,hK,hL,hM,hN,hO,hP,hQ,hR,hS,hT,hU,hV,hW,hX,hY,hZ,h0,h1,h2,h3] M:=by kernel_rfl
theorem k5_12:P5 [1,1,1,0,1,0,1]=.ret:=by kernel_rfl
theorem e5 {M:Mem}:finish Try.prog Try.f5 #[g0,g1,g2,g3,g4,g5,g6,g7,g8,g9,gA,gB,gC,gD,gE,gF,gG,gH,gI,gJ,gK,gL,gM,gN,gO,gP,gQ,gR,gS,gT,gU,gV,gW,gX,gY,gZ,hA,hB,hC,hD,hE,hF,hG,hH,hI,hJ,hK,hL,hM,hN,hO,hP,hQ,hR,hS,hT,hU,hV,hW,hX,hY,hZ,h0,h1,h2,h3] M=some (g6,M):=by kernel_rfl
theorem k5_14:P5 [1,1,1,0,1,1]=.skip:=by kernel_rfl
theorem k5_15:P5 [1,1,1,1]=.seq (P5 [1,1,1,1,0]) (P5 [1,1,1,1,1]):=by kernel_rfl
theorem k5_16:P5 [1,1,1,1,0]=.seq (P5 [1,1,1,1,0,0]) (P5 [1,1,1,1,0,1]):=by kernel_rfl
theorem k5_17:P5 [1,1,1,1,0,0]=.region 5 (O5 [1,1,1,1,0,0]) false:=by kernel_rfl
theorem r5_5 {M:Mem} {call:CallM} {K:Array Value→Mem→R} :
 opsK Try.prog (fun _=>call) (O5 [1,1,1,1,0,0]) (O5 [1,1,1,1,0,0]).toList 0 #[g0,g1,g2,g3,g4,g5,g6,g7,g8,g9,gA,gB,gC,gD,gE,gF,gG,gH,gI,gJ,gK,gL,gM,gN,gO,gP,gQ,gR,gS,gT,gU,gV,gW,gX,gY,gZ,hA,hB,hC,hD,hE,hF,hG,hH,hI,hJ,hK,hL,hM,hN,hO,hP,hQ,hR,hS,hT,hU,hV,hW,hX,hY,hZ,h0,h1,h2,h3] M K=K #[g0,g1,g2,g3,g4,g5,g6,g7,g8,g9,gA,.int .i64 0,gC,gD,gE,gF,gG,gH,gI,gJ,gK,gL,gM,gN,gO,gP,gQ,gR,gS,gT,gU,gV,gW,gX,gY,gZ,hA,hB,hC,hD,hE,hF,hG,hH,hI,hJ,hK,hL,hM,hN,hO,hP,hQ,hR,hS,hT,hU,hV,hW,hX,hY,hZ,h0,h1,h2,h3] M:=by kernel_rfl
theorem k5_18:P5 [1,1,1,1,0,1]=.block 0 (P5 [1,1,1,1,0,1,0]):=by kernel_rfl
theorem k5_19:P5 [1,1,1,1,0,1,0]=.loop (P5 [1,1,1,1,0,1,0,0]):=by kernel_rfl
theorem k5_20:P5 [1,1,1,1,0,1,0,0]=.seq (P5 [1,1,1,1,0,1,0,0,0]) (P5 [1,1,1,1,0,1,0,0,1]):=by kernel_rfl
theorem k5_21:P5 [1,1,1,1,0,1,0,0,0]=.seq (P5 [1,1,1,1,0,1,0,0,0,0]) (P5 [1,1,1,1,0,1,0,0,0,1]):=by kernel_rfl
theorem k5_22:P5 [1,1,1,1,0,1,0,0,0,0]=.region 6 (O5 [1,1,1,1,0,1,0,0,0,0]) false:=by kernel_rfl
theorem r5_6 {Y7:Option Addr} {l7 y7:Nat} {x11:Int} {M:Mem} {call:CallM} {K:Array Value→Mem→R} :
 opsK Try.prog (fun _=>call) (O5 [1,1,1,1,0,1,0,0,0,0]) (O5 [1,1,1,1,0,1,0,0,0,0]).toList 0 #[g0,g1,g2,g3,g4,g5,g6,.slice Y7 l7 y7,g8,g9,gA,.int .i64 x11,gC,gD,gE,gF,gG,gH,gI,gJ,gK,gL,gM,gN,gO,gP,gQ,gR,gS,gT,gU,gV,gW,gX,gY,gZ,hA,hB,hC,hD,hE,hF,hG,hH,hI,hJ,hK,hL,hM,hN,hO,hP,hQ,hR,hS,hT,hU,hV,hW,hX,hY,hZ,h0,h1,h2,h3] M K=K #[g0,g1,g2,g3,g4,g5,g6,.slice Y7 l7 y7,g8,g9,gA,.int .i64 x11,gC,gD,gE,gF,gG,gH,gI,gJ,gK,gL,gM,gN,gO,gP,gQ,gR,gS,gT,gU,gV,gW,gX,gY,gZ,hA,hB,hC,hD,hE,hF,hG,hH,hI,hJ,hK,.int .i64 x11,.slice Y7 l7 y7,.int .i64 ((l7:Int)),.bool (decide (x11<((l7:Int)))),hP,hQ,hR,hS,hT,hU,hV,hW,hX,hY,hZ,h0,h1,h2,h3] M:=by kernel_rfl
theorem c5_23:P5 [1,1,1,1,0,1,0,0,0,1]=.cond (.tmp 50) (P5 [1,1,1,1,0,1,0,0,0,1,0]) (P5 [1,1,1,1,0,1,0,0,0,1,1]):=by kernel_rfl
theorem k5_24:P5 [1,1,1,1,0,1,0,0,0,1,0]=.skip:=by kernel_rfl
theorem k5_25:P5 [1,1,1,1,0,1,0,0,1]=.seq (P5 [1,1,1,1,0,1,0,0,1,0]) (P5 [1,1,1,1,0,1,0,0,1,1]):=by kernel_rfl
theorem k5_26:P5 [1,1,1,1,0,1,0,0,1,0]=.block 1 (P5 [1,1,1,1,0,1,0,0,1,0,0]):=by kernel_rfl
theorem k5_27:P5 [1,1,1,1,0,1,0,0,1,0,0]=.seq (P5 [1,1,1,1,0,1,0,0,1,0,0,0]) (P5 [1,1,1,1,0,1,0,0,1,0,0,1]):=by kernel_rfl
theorem k5_28:P5 [1,1,1,1,0,1,0,0,1,0,0,0]=.region 8 (O5 [1,1,1,1,0,1,0,0,1,0,0,0]) true∧drawOk (O5 [1,1,1,1,0,1,0,0,1,0,0,0])=true:=⟨by kernel_rfl,by kernel_rfl⟩
theorem r5_8 {Y7:Option Addr} {l7 y7:Nat} {Y9:Option Addr} {l9 y9:Nat} {x11:Int} {M:Mem} {call:CallM} {K:Array Value→Mem→R} :
    opsI Try.prog (callAt call (O5 [1,1,1,1,0,1,0,0,1,0,0,0])) (O5 [1,1,1,1,0,1,0,0,1,0,0,0]) (ordOf (O5 [1,1,1,1,0,1,0,0,1,0,0,0])) [] #[g0,g1,g2,g3,g4,g5,g6,.slice Y7 l7 y7,g8,.slice Y9 l9 y9,gA,.int .i64 x11,gC,gD,gE,gF,gG,gH,gI,gJ,gK,gL,gM,gN,gO,gP,gQ,gR,gS,gT,gU,gV,gW,gX,gY,gZ,hA,hB,hC,hD,hE,hF,hG,hH,hI,hJ,hK,hL,hM,hN,hO,hP,hQ,hR,hS,hT,hU,hV,hW,hX,hY,hZ,h0,h1,h2,h3] M K=(idxA Y7 l7 4 x11).bind fun a_1=>(M.intAt .i64 a_1.block a_1.off).bind fun x_2=>(M.intAt .i64 a_1.block (a_1.off+1)).bind fun x_3=>(M.intAt .i64 a_1.block (a_1.off+2)).bind fun x_4=>(M.intAt .i64 a_1.block (a_1.off+3)).bind fun x_5=>(idxA Y9 l9 4 x11).bind fun a_6=>(M.intAt .i64 a_6.block a_6.off).bind fun x_7=>(M.intAt .i64 a_6.block (a_6.off+1)).bind fun x_8=>(M.intAt .i64 a_6.block (a_6.off+2)).bind fun x_9=>(M.intAt .i64 a_6.block (a_6.off+3)).bind fun x_10=>(floored call 19 #[.agg #[.int .i64 x_2,.int .i64 x_3,.int .i64 x_4,.int .i64 x_5]] M).bind fun r_11=>(asS r_11.1).bind fun s_12=>(call 20 #[.agg #[.int .i64 x_7,.int .i64 x_8,.int .i64 x_9,.int .i64 x_10]] r_11.2).bind fun r_13=>(asS r_13.1).bind fun s_14=>(call 18 #[.slice s_12.1 (s_12.2.1) (s_12.2.2),.slice s_14.1 (s_14.2.1) (s_14.2.2)] r_13.2).bind fun r_15=>(asB r_15.1).bind fun b_16=>K #[g0,g1,g2,g3,g4,g5,g6,.slice Y7 l7 y7,g8,.slice Y9 l9 y9,gA,.int .i64 x11,gC,gD,gE,gF,gG,gH,gI,gJ,gK,gL,gM,gN,gO,gP,gQ,gR,gS,gT,gU,gV,gW,gX,gY,gZ,hA,hB,hC,hD,hE,hF,hG,hH,hI,hJ,hK,hL,hM,hN,hO,hP,hQ,.slice Y7 l7 y7,.int .i64 x11,.pointer (some a_1),.agg #[.int .i64 x_2,.int .i64 x_3,.int .i64 x_4,.int .i64 x_5],.slice s_12.1 (s_12.2.1) (s_12.2.2),.slice Y9 l9 y9,.int .i64 x11,.pointer (some a_6),.agg #[.int .i64 x_7,.int .i64 x_8,.int .i64 x_9,.int .i64 x_10],.slice s_14.1 (s_14.2.1) (s_14.2.2),.bool b_16,.bool (!b_16),h3] r_15.2:=by kernel_rfl
theorem c5_29:P5 [1,1,1,1,0,1,0,0,1,0,0,1]=.cond (.tmp 64) (P5 [1,1,1,1,0,1,0,0,1,0,0,1,0]) (P5 [1,1,1,1,0,1,0,0,1,0,0,1,1]):=by kernel_rfl
theorem k5_30:P5 [1,1,1,1,0,1,0,0,1,0,0,1,0]=.seq (P5 [1,1,1,1,0,1,0,0,1,0,0,1,0,0]) (P5 [1,1,1,1,0,1,0,0,1,0,0,1,0,1]):=by kernel_rfl
theorem k5_31:P5 [1,1,1,1,0,1,0,0,1,0,0,1,0,0]=.region 9 (O5 [1,1,1,1,0,1,0,0,1,0,0,1,0,0]) false:=by kernel_rfl
theorem r5_9 {M:Mem} {call:CallM} {K:Array Value→Mem→R} :
 opsK Try.prog (fun _=>call) (O5 [1,1,1,1,0,1,0,0,1,0,0,1,0,0]) (O5 [1,1,1,1,0,1,0,0,1,0,0,1,0,0]).toList 0 #[g0,g1,g2,g3,g4,g5,g6,g7,g8,g9,gA,gB,gC,gD,gE,gF,gG,gH,gI,gJ,gK,gL,gM,gN,gO,gP,gQ,gR,gS,gT,gU,gV,gW,gX,gY,gZ,hA,hB,hC,hD,hE,hF,hG,hH,hI,hJ,hK,hL,hM,hN,hO,hP,hQ,hR,hS,hT,hU,hV,hW,hX,hY,hZ,h0,h1,h2,h3] M K=K #[g0,g1,g2,g3,g4,g5,.bool false,g7,g8,g9,gA,gB,gC,gD,gE,gF,gG,gH,gI,gJ,gK,gL,gM,gN,gO,gP,gQ,gR,gS,gT,gU,gV,gW,gX,gY,gZ,hA,hB,hC,hD,hE,hF,hG,hH,hI,hJ,hK,hL,hM,hN,hO,hP,hQ,hR,hS,hT,hU,hV,hW,hX,hY,hZ,h0,h1,h2,h3] M:=by kernel_rfl
theorem k5_32:P5 [1,1,1,1,0,1,0,0,1,0,0,1,0,1]=.ret:=by kernel_rfl
theorem k5_33:P5 [1,1,1,1,0,1,0,0,1,0,0,1,1]=.skip:=by kernel_rfl
theorem k5_34:P5 [1,1,1,1,0,1,0,0,1,1]=.region 7 (O5 [1,1,1,1,0,1,0,0,1,1]) false:=by kernel_rfl
theorem r5_7 {x11:Int} {M:Mem} {call:CallM} {K:Array Value→Mem→R} :
 opsK Try.prog (fun _=>call) (O5 [1,1,1,1,0,1,0,0,1,1]) (O5 [1,1,1,1,0,1,0,0,1,1]).toList 0 #[g0,g1,g2,g3,g4,g5,g6,g7,g8,g9,gA,.int .i64 x11,gC,gD,gE,gF,gG,gH,gI,gJ,gK,gL,gM,gN,gO,gP,gQ,gR,gS,gT,gU,gV,gW,gX,gY,gZ,hA,hB,hC,hD,hE,hF,hG,hH,hI,hJ,hK,hL,hM,hN,hO,hP,hQ,hR,hS,hT,hU,hV,hW,hX,hY,hZ,h0,h1,h2,h3] M K=K #[g0,g1,g2,g3,g4,g5,g6,g7,g8,g9,gA,.int .i64 (IntKind.i64.wrap (x11+1)),gC,gD,gE,gF,gG,gH,gI,gJ,gK,gL,gM,gN,gO,gP,gQ,gR,gS,gT,gU,gV,gW,gX,gY,gZ,hA,hB,hC,hD,hE,hF,hG,hH,hI,hJ,hK,hL,hM,hN,hO,.int .i64 x11,.int .i64 (IntKind.i64.wrap (x11+1)),hR,hS,hT,hU,hV,hW,hX,hY,hZ,h0,h1,h2,h3] M:=by kernel_rfl
theorem k5_35:P5 [1,1,1,1,0,1,0,0,0,1,1]=.exit 0:=by kernel_rfl
theorem k5_36:P5 [1,1,1,1,1]=.seq (P5 [1,1,1,1,1,0]) (P5 [1,1,1,1,1,1]):=by kernel_rfl
theorem k5_37:P5 [1,1,1,1,1,0]=.region 10 (O5 [1,1,1,1,1,0]) false:=by kernel_rfl
theorem r5_10 {M:Mem} {call:CallM} {K:Array Value→Mem→R} :
 opsK Try.prog (fun _=>call) (O5 [1,1,1,1,1,0]) (O5 [1,1,1,1,1,0]).toList 0 #[g0,g1,g2,g3,g4,g5,g6,g7,g8,g9,gA,gB,gC,gD,gE,gF,gG,gH,gI,gJ,gK,gL,gM,gN,gO,gP,gQ,gR,gS,gT,gU,gV,gW,gX,gY,gZ,hA,hB,hC,hD,hE,hF,hG,hH,hI,hJ,hK,hL,hM,hN,hO,hP,hQ,hR,hS,hT,hU,hV,hW,hX,hY,hZ,h0,h1,h2,h3] M K=(call 14 #[] M).bind fun r_1=>(asB r_1.1).bind fun b_2=>K #[g0,g1,g2,g3,g4,g5,.bool b_2,g7,g8,g9,gA,gB,gC,gD,gE,gF,gG,gH,gI,gJ,gK,gL,gM,gN,gO,gP,gQ,gR,gS,gT,gU,gV,gW,gX,gY,gZ,hA,hB,hC,hD,hE,hF,hG,hH,hI,hJ,hK,hL,hM,hN,hO,hP,hQ,hR,hS,hT,hU,hV,hW,hX,hY,hZ,h0,h1,h2,.bool b_2] r_1.2:=by kernel_rfl
theorem k5_38:P5 [1,1,1,1,1,1]=.ret:=by kernel_rfl
noncomputable def S5_1:List Item:=[.code (P5 [1,1,1,0,1]),.code (P5 [1,1,1,1])]
def A5_1 (Y7:Option Addr) (l7 y7:Nat) (Y9:Option Addr) (l9 y9:Nat) (x46:Bool) (M:Mem) (Q:Value→Mem→Prop):Prop:=∀ (g0 g1 g2 g3 g4 g5 g6 g8 gA gB gC gD gE gF gG gH gI gJ gK gL gM gN gO gP gQ gR gS gT gU gV gW gX gY gZ hA hB hC hD hE hF hG hH hI hJ hL hM hN hO hP hQ hR hS hT hU hV hW hX hY hZ h0 h1 h2 h3:Value),Rn Try.prog Try.f5 S5_1 #[g0,g1,g2,g3,g4,g5,g6,.slice Y7 l7 y7,g8,.slice Y9 l9 y9,gA,gB,gC,gD,gE,gF,gG,gH,gI,gJ,gK,gL,gM,gN,gO,gP,gQ,gR,gS,gT,gU,gV,gW,gX,gY,gZ,hA,hB,hC,hD,hE,hF,hG,hH,hI,hJ,.bool x46,hL,hM,hN,hO,hP,hQ,hR,hS,hT,hU,hV,hW,hX,hY,hZ,h0,h1,h2,h3] M Q
noncomputable def S5_2:List Item:=[.code (P5 [1,1,1,1,0,1,0,0]),.inLoop (P5 [1,1,1,1,0,1,0,0]),.inBlock 0,.code (P5 [1,1,1,1,1])]
def A5_2 (Y7:Option Addr) (l7 y7:Nat) (Y9:Option Addr) (l9 y9:Nat) (x11:Int) (M:Mem) (Q:Value→Mem→Prop):Prop:=∀ (g0 g1 g2 g3 g4 g5 g6 g8 gA gC gD gE gF gG gH gI gJ gK gL gM gN gO gP gQ gR gS gT gU gV gW gX gY gZ hA hB hC hD hE hF hG hH hI hJ hK hL hM hN hO hP hQ hR hS hT hU hV hW hX hY hZ h0 h1 h2 h3:Value),Rn Try.prog Try.f5 S5_2 #[g0,g1,g2,g3,g4,g5,g6,.slice Y7 l7 y7,g8,.slice Y9 l9 y9,gA,.int .i64 x11,gC,gD,gE,gF,gG,gH,gI,gJ,gK,gL,gM,gN,gO,gP,gQ,gR,gS,gT,gU,gV,gW,gX,gY,gZ,hA,hB,hC,hD,hE,hF,hG,hH,hI,hJ,hK,hL,hM,hN,hO,hP,hQ,hR,hS,hT,hU,hV,hW,hX,hY,hZ,h0,h1,h2,h3] M Q
theorem w5_0 {x0_0 x0_1 x1_0 x1_1 x2_0 x2_1 x2_2 x2_3:Int} {M:Mem} {Q:Value→Mem→Prop} (H :
 ∃x1',(((M.new (.cells #[.int .i64 x0_0,.int .i64 x0_1] 32)).new (.cells #[.int .i64 x1_0,.int .i64 x1_1] 33)).new (.cells #[.int .i64 x2_0,.int .i64 x2_1,.int .i64 x2_2,.int .i64 x2_3] 35)).intAt .i64 (2*M.nb.size) 0=some x1'∧
 ∃x2',(((M.new (.cells #[.int .i64 x0_0,.int .i64 x0_1] 32)).new (.cells #[.int .i64 x1_0,.int .i64 x1_1] 33)).new (.cells #[.int .i64 x2_0,.int .i64 x2_1,.int .i64 x2_2,.int .i64 x2_3] 35)).intAt .i64 (2*M.nb.size) (0+1)=some x2'∧
 ∃a3',idxA (some ⟨2*(M.new (.cells #[.int .i64 x0_0,.int .i64 x0_1] 32)).nb.size,0,none⟩) 2 1 0=some a3'∧
 ∃x4',(((M.new (.cells #[.int .i64 x0_0,.int .i64 x0_1] 32)).new (.cells #[.int .i64 x1_0,.int .i64 x1_1] 33)).new (.cells #[.int .i64 x2_0,.int .i64 x2_1,.int .i64 x2_2,.int .i64 x2_3] 35)).intAt .i64 a3'.block a3'.off=some x4'∧
 ∃a5',idxA (some ⟨2*(M.new (.cells #[.int .i64 x0_0,.int .i64 x0_1] 32)).nb.size,0,none⟩) 2 1 1=some a5'∧
 ∃x6',(((M.new (.cells #[.int .i64 x0_0,.int .i64 x0_1] 32)).new (.cells #[.int .i64 x1_0,.int .i64 x1_1] 33)).new (.cells #[.int .i64 x2_0,.int .i64 x2_1,.int .i64 x2_2,.int .i64 x2_3] 35)).intAt .i64 a5'.block a5'.off=some x6'∧
 Cn Try.prog 16 #[.agg #[.int .i64 x1',.int .i64 x2'],.int .i64 x4',.int .i64 x6'] (((M.new (.cells #[.int .i64 x0_0,.int .i64 x0_1] 32)).new (.cells #[.int .i64 x1_0,.int .i64 x1_1] 33)).new (.cells #[.int .i64 x2_0,.int .i64 x2_1,.int .i64 x2_2,.int .i64 x2_3] 35)) fun v7' N7'=>
 ∃cs8',asU 2 v7'=some cs8'∧
 ∃s9',asS (cs8'.getD 0 undef)=some s9'∧
 ∃x10',asI .i64 (cs8'.getD 1 undef)=some x10'∧
 ∃x11',N7'.intAt .i64 (2*M.nb.size) 0=some x11'∧
 ∃x12',N7'.intAt .i64 (2*M.nb.size) (0+1)=some x12'∧
 ∃a13',idxA (some ⟨2*(M.new (.cells #[.int .i64 x0_0,.int .i64 x0_1] 32)).nb.size,0,none⟩) 2 1 0=some a13'∧
 ∃x14',N7'.intAt .i64 a13'.block a13'.off=some x14'∧
 ∃a15',idxA (some ⟨2*(M.new (.cells #[.int .i64 x0_0,.int .i64 x0_1] 32)).nb.size,0,none⟩) 2 1 1=some a15'∧
 ∃x16',N7'.intAt .i64 a15'.block a15'.off=some x16'∧
 Cn Try.prog 17 #[.agg #[.int .i64 x11',.int .i64 x12'],.int .i64 x14',.int .i64 x16'] N7' fun v17' N17'=>
 ∃cs18',asU 2 v17'=some cs18'∧
 ∃s19',asS (cs18'.getD 0 undef)=some s19'∧
 ∃x20',asI .i64 (cs18'.getD 1 undef)=some x20'∧
 ((x10'≠x20'→
 A5_1 s9'.1 s9'.2.1 s9'.2.2 s19'.1 s19'.2.1 s19'.2.2 true N17' Q)∧
 (x10'=x20'→
 Cn Try.prog 18 #[.slice s9'.1 s9'.2.1 s9'.2.2,.slice s19'.1 s19'.2.1 s19'.2.2] N17' fun v21' N21'=>
 ∃b22',asB v21'=some b22'∧
 (((!b22')=true→
 A5_1 s9'.1 s9'.2.1 s9'.2.2 s19'.1 s19'.2.1 s19'.2.2 true N21' Q)∧
 ((!b22')=false→
 ∃x23',N21'.intAt .i64 (2*((M.new (.cells #[.int .i64 x0_0,.int .i64 x0_1] 32)).new (.cells #[.int .i64 x1_0,.int .i64 x1_1] 33)).nb.size) 0=some x23'∧
 ∃x24',N21'.intAt .i64 (2*((M.new (.cells #[.int .i64 x0_0,.int .i64 x0_1] 32)).new (.cells #[.int .i64 x1_0,.int .i64 x1_1] 33)).nb.size) (0+1)=some x24'∧
 ∃x25',N21'.intAt .i64 (2*((M.new (.cells #[.int .i64 x0_0,.int .i64 x0_1] 32)).new (.cells #[.int .i64 x1_0,.int .i64 x1_1] 33)).nb.size) (0+2)=some x25'∧
 ∃x26',N21'.intAt .i64 (2*((M.new (.cells #[.int .i64 x0_0,.int .i64 x0_1] 32)).new (.cells #[.int .i64 x1_0,.int .i64 x1_1] 33)).nb.size) (0+3)=some x26'∧
 ∃x27',N21'.intAt .i64 (2*((M.new (.cells #[.int .i64 x0_0,.int .i64 x0_1] 32)).new (.cells #[.int .i64 x1_0,.int .i64 x1_1] 33)).nb.size) 0=some x27'∧
 ∃x28',N21'.intAt .i64 (2*((M.new (.cells #[.int .i64 x0_0,.int .i64 x0_1] 32)).new (.cells #[.int .i64 x1_0,.int .i64 x1_1] 33)).nb.size) (0+1)=some x28'∧
 ∃x29',N21'.intAt .i64 (2*((M.new (.cells #[.int .i64 x0_0,.int .i64 x0_1] 32)).new (.cells #[.int .i64 x1_0,.int .i64 x1_1] 33)).nb.size) (0+2)=some x29'∧
 ∃x30',N21'.intAt .i64 (2*((M.new (.cells #[.int .i64 x0_0,.int .i64 x0_1] 32)).new (.cells #[.int .i64 x1_0,.int .i64 x1_1] 33)).nb.size) (0+3)=some x30'∧
 Cn Try.prog 19 #[.agg #[.int .i64 x23',.int .i64 x24',.int .i64 x25',.int .i64 x26']] {N21' with floor:=N21'.nb.size} fun v31' N31'=>
 ∃s32',asS v31'=some s32'∧
 Cn Try.prog 20 #[.agg #[.int .i64 x27',.int .i64 x28',.int .i64 x29',.int .i64 x30']] {N31' with floor:=N21'.floor} fun v33' N33'=>
 ∃s34',asS v33'=some s34'∧
 Cn Try.prog 18 #[.slice s32'.1 (s32'.2.1) (s32'.2.2),.slice s34'.1 (s34'.2.1) (s34'.2.2)] N33' fun v35' N35'=>
 ∃b36',asB v35'=some b36'∧
 A5_1 s9'.1 s9'.2.1 s9'.2.2 s19'.1 s19'.2.1 s19'.2.2 (!b36') N35' Q))))):
 Cn Try.prog 5 #[.agg #[.int .i64 x0_0,.int .i64 x0_1],.agg #[.int .i64 x1_0,.int .i64 x1_1],.agg #[.int .i64 x2_0,.int .i64 x2_1,.int .i64 x2_2,.int .i64 x2_3]] M Q:=by
  refine Cn.of b5 d5 t5 ?_
  refine Rn.seq k5_0 (Rn.region k5_1 (fun call K=>r5_0) (Rch.leaf (Rn.seq k5_2 (Rn.region k5_3 (fun call K=>r5_1) (Rch.bind (x:=⟨2*M.nb.size,0,none⟩) rfl (Rch.ex H fun x1' H=>Rch.ex H fun x2' H=>Rch.ex H fun a3' H=>Rch.ex H fun x4' H=>Rch.ex H fun a5' H=>Rch.ex H fun x6' H=>?_))))))
  refine Rch.call H fun v7' N7' H=>Rch.ex H fun cs8' H=>Rch.ex H fun s9' H=>Rch.ex H fun x10' H=>Rch.leaf (Rn.seq k5_4 (Rn.region k5_5 (fun call K=>r5_2) (Rch.bind (x:=⟨2*M.nb.size,0,none⟩) rfl (Rch.ex H fun x11' H=>Rch.ex H fun x12' H=>Rch.ex H fun a13' H=>Rch.ex H fun x14' H=>?_))))
  refine Rch.ex H fun a15' H=>Rch.ex H fun x16' H=>Rch.call H fun v17' N17' H=>Rch.ex H fun cs18' H=>Rch.ex H fun s19' H=>Rch.ex H fun x20' H=>Rch.leaf (Rn.seq k5_6 (Rn.seq k5_7 (Rn.regionD k5_8 (fun call K=>r5_3) ?_)))
  refine Rch.cB (fun h=>?_) (fun h=>?_)
  · replace H:=H.1 (ne_of_bneT h)
    refine Rch.leaf ?_
    exact H ..
  · replace H:=H.2 (eq_of_bneF h)
    refine Rch.call H fun v21' N21' H=>Rch.ex H fun b22' H=>?_
    refine Rch.cB (fun h=>?_) (fun h=>?_)
    · replace H:=H.1 (h)
      refine Rch.leaf ?_
      exact H ..
    · replace H:=H.2 (h)
      refine Rch.bind (x:=⟨2*((M.new (.cells #[.int .i64 x0_0,.int .i64 x0_1] 32)).new (.cells #[.int .i64 x1_0,.int .i64 x1_1] 33)).nb.size,0,none⟩) rfl (Rch.ex H fun x23' H=>Rch.ex H fun x24' H=>Rch.ex H fun x25' H=>Rch.ex H fun x26' H=>Rch.bind (x:=⟨2*((M.new (.cells #[.int .i64 x0_0,.int .i64 x0_1] 32)).new (.cells #[.int .i64 x1_0,.int .i64 x1_1] 33)).nb.size,0,none⟩) rfl (Rch.ex H fun x27' H=>Rch.ex H fun x28' H=>Rch.ex H fun x29' H=>Rch.ex H fun x30' H=>Rch.callF H fun v31' N31' H=>Rch.ex H fun s32' H=>?_))
      refine Rch.call H fun v33' N33' H=>Rch.ex H fun s34' H=>Rch.call H fun v35' N35' H=>Rch.ex H fun b36' H=>Rch.leaf ?_
      exact H ..
theorem w5_1 {Y7:Option Addr} {l7 y7:Nat} {Y9:Option Addr} {l9 y9:Nat} {x46:Bool} {M:Mem} {Q:Value→Mem→Prop} (H :
 ((x46=true→
 Q (.bool false) M)∧
 (x46=false→
 A5_2 Y7 l7 y7 Y9 l9 y9 0 M Q))):
 A5_1 Y7 l7 y7 Y9 l9 y9 x46 M Q:=by
  iterate 63 intro _
  refine Rn.cnd (v:=x46) ⟨c5_9,rfl,by kernel_rfl⟩ (fun h=>?_) (fun h=>?_)
  · replace H:=H.1 (h)
    refine Rn.seq k5_10 (Rn.region k5_11 (fun call K=>r5_4) (Rch.leaf ?_))
    exact Rn.ret k5_12 e5 H
  · replace H:=H.2 (h)
    refine Rn.skip k5_14 (Rn.seq k5_15 (Rn.seq k5_16 (Rn.region k5_17 (fun call K=>r5_5) (Rch.leaf (Rn.block k5_18 (Rn.loop k5_19 ?_))))))
    exact H ..
theorem w5_2 {Y7:Option Addr} {l7 y7:Nat} {Y9:Option Addr} {l9 y9:Nat} {x11:Int} {M:Mem} {Q:Value→Mem→Prop} (H :
 ((x11<((l7:Int))→
 ∃a37',idxA Y7 l7 4 x11=some a37'∧
 ∃x38',M.intAt .i64 a37'.block a37'.off=some x38'∧
 ∃x39',M.intAt .i64 a37'.block (a37'.off+1)=some x39'∧
 ∃x40',M.intAt .i64 a37'.block (a37'.off+2)=some x40'∧
 ∃x41',M.intAt .i64 a37'.block (a37'.off+3)=some x41'∧
 ∃a42',idxA Y9 l9 4 x11=some a42'∧
 ∃x43',M.intAt .i64 a42'.block a42'.off=some x43'∧
 ∃x44',M.intAt .i64 a42'.block (a42'.off+1)=some x44'∧
 ∃x45',M.intAt .i64 a42'.block (a42'.off+2)=some x45'∧
 ∃x46',M.intAt .i64 a42'.block (a42'.off+3)=some x46'∧
 Cn Try.prog 19 #[.agg #[.int .i64 x38',.int .i64 x39',.int .i64 x40',.int .i64 x41']] {M with floor:=M.nb.size} fun v47' N47'=>
 ∃s48',asS v47'=some s48'∧
 Cn Try.prog 20 #[.agg #[.int .i64 x43',.int .i64 x44',.int .i64 x45',.int .i64 x46']] {N47' with floor:=M.floor} fun v49' N49'=>
 ∃s50',asS v49'=some s50'∧
 Cn Try.prog 18 #[.slice s48'.1 (s48'.2.1) (s48'.2.2),.slice s50'.1 (s50'.2.1) (s50'.2.2)] N49' fun v51' N51'=>
 ∃b52',asB v51'=some b52'∧
 (((!b52')=true→
 Q (.bool false) N51')∧
 ((!b52')=false→
 A5_2 Y7 l7 y7 Y9 l9 y9 (IntKind.i64.wrap (x11+1)) N51' Q)))∧
 (¬(x11<((l7:Int)))→
 Cn Try.prog 14 #[] M fun v53' N53'=>
 ∃b54',asB v53'=some b54'∧
 Q (.bool b54') N53'))):
 A5_2 Y7 l7 y7 Y9 l9 y9 x11 M Q:=by
  iterate 63 intro _
  refine Rn.seq k5_20 (Rn.seq k5_21 (Rn.region k5_22 (fun call K=>r5_6) (Rch.leaf ?_)))
  refine Rn.cnd (v:=decide (x11<((l7:Int)))) ⟨c5_23,rfl,by kernel_rfl⟩ (fun h=>?_) (fun h=>?_)
  · replace H:=H.1 (of_decide_eq_true h)
    refine Rn.skip k5_24 (Rn.seq k5_25 (Rn.block k5_26 (Rn.seq k5_27 (Rn.regionD k5_28 (fun call K=>r5_8) (Rch.ex H fun a37' H=>Rch.ex H fun x38' H=>Rch.ex H fun x39' H=>Rch.ex H fun x40' H=>Rch.ex H fun x41' H=>Rch.ex H fun a42' H=>Rch.ex H fun x43' H=>?_)))))
    refine Rch.ex H fun x44' H=>Rch.ex H fun x45' H=>Rch.ex H fun x46' H=>Rch.callF H fun v47' N47' H=>Rch.ex H fun s48' H=>Rch.call H fun v49' N49' H=>Rch.ex H fun s50' H=>Rch.call H fun v51' N51' H=>Rch.ex H fun b52' H=>Rch.leaf ?_
    refine Rn.cnd (v:=!b52') ⟨c5_29,rfl,by kernel_rfl⟩ (fun h=>?_) (fun h=>?_)
    · replace H:=H.1 (h)
      refine Rn.seq k5_30 (Rn.region k5_31 (fun call K=>r5_9) (Rch.leaf ?_))
      exact Rn.ret k5_32 e5 H
    · replace H:=H.2 (h)
      refine Rn.skip k5_33 (Rn.blk (Rn.region k5_34 (fun call K=>r5_7) (Rch.leaf (Rn.lp ?_))))
      exact H ..
  · replace H:=H.2 (of_decide_eq_false h)
    refine Rn.exit k5_35 rfl (Rn.seq k5_36 (Rn.region k5_37 (fun call K=>r5_10) (Rch.call H fun v53' N53' H=>Rch.ex H fun b54' H=>Rch.leaf ?_)))
    exact Rn.ret k5_38 e5 H
end Go.Zt
