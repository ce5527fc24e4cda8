/- The functions' walks: for each function and each loop a rule of what it comes to. Printed by zw.py. -/
import Derived.Test.YtgepgbblmodagaaProg
import Derived.Test.YtgepgbblmodagaaZkA
set_option linter.unusedVariables false
set_option maxRecDepth 100000
namespace Go.Zt
open Go Go.Sim Go.Proofs
variable {g0 g1 g2 g3 g4 g5 g6 g7 g8 g9 gA gB gC gD gE gF gG gH gI gJ gK gL gM gN gO gP gQ gR gS gT gU gV gW gX gY gZ hA hB hC hD hE hF hG hH hI hJ hK hL hM hN hO hP hQ hR hS hT hU hV hW hX hY hZ h0 h1 h2 h3 h4 h5 h6:Value}
noncomputable abbrev P3 (p:List Nat):Code:=subC (codeOf Try.f3) p
noncomputable abbrev O3 (p:List Nat):Array Oper:=opsOf (subC (codeOf Try.f3) p)
theorem b3:Try.prog.funcs[3]?=some Try.f3∧(Orc.tab Try.prog).lookup 3=none:=⟨by kernel_rfl,by kernel_rfl⟩
theorem d3:Try.f3.body=some (P3 []):=by kernel_rfl
theorem t3 {x0_0 x0_1:Int} {Y1:Option Addr} {l1 y1:Nat}:#[.agg #[.int .i64 x0_0,.int .i64 x0_1],.slice Y1 l1 y1] ++ Array.replicate (Try.f3.ntmps-(#[.agg #[.int .i64 x0_0,.int .i64 x0_1],.slice Y1 l1 y1]:Array Value).size) undef=#[.agg #[.int .i64 x0_0,.int .i64 x0_1],.slice Y1 l1 y1,undef,undef,undef,undef,undef,undef,undef,undef,undef,undef,undef,undef,undef,undef,undef,undef,undef,undef,undef,undef,undef,undef,undef,undef,undef,undef,undef,undef,undef,undef,undef,undef,undef,undef,undef,undef,undef,undef,undef,undef,undef,undef,undef,undef,undef,undef,undef,undef,undef,undef,undef,undef,undef,undef,undef,undef,undef,undef,undef,undef,undef,undef,undef,undef,undef,undef,undef]:=by kernel_rfl
theorem k3_0:P3 []=.seq (P3 [0]) (P3 [1]):=by kernel_rfl
theorem k3_1:P3 [0]=.region 0 (O3 [0]) false:=by kernel_rfl
theorem r3_0 {x0_0 x0_1:Int} {M:Mem} {call:CallM} {K:Array Value→Mem→R} :
 opsK Try.prog (fun _=>call) (O3 [0]) (O3 [0]).toList 0 #[.agg #[.int .i64 x0_0,.int .i64 x0_1],g1,g2,g3,g4,g5,g6,g7,g8,g9,gA,gB,gC,gD,gE,gF,gG,gH,gI,gJ,gK,gL,gM,gN,gO,gP,gQ,gR,gS,gT,gU,gV,gW,gX,gY,gZ,hA,hB,hC,hD,hE,hF,hG,hH,hI,hJ,hK,hL,hM,hN,hO,hP,hQ,hR,hS,hT,hU,hV,hW,hX,hY,hZ,h0,h1,h2,h3,h4,h5,h6] M K=K #[.agg #[.int .i64 x0_0,.int .i64 x0_1],g1,.pointer (some ⟨2*M.nb.size,0,none⟩),g3,.bool false,g5,g6,g7,g8,g9,gA,gB,gC,gD,gE,gF,gG,gH,gI,gJ,gK,gL,gM,gN,gO,gP,gQ,gR,gS,gT,gU,gV,gW,gX,gY,gZ,hA,hB,hC,hD,hE,hF,hG,hH,hI,hJ,hK,hL,hM,hN,hO,hP,hQ,hR,hS,hT,hU,hV,hW,hX,hY,hZ,h0,h1,h2,h3,h4,h5,h6] (M.new (.cells #[.int .i64 x0_0,.int .i64 x0_1] 23)):=by kernel_rfl
theorem k3_2:P3 [1]=.seq (P3 [1,0]) (P3 [1,1]):=by kernel_rfl
theorem k3_3:P3 [1,0]=.region 1 (O3 [1,0]) false:=by kernel_rfl
theorem r3_1 {Y1:Option Addr} {l1 y1:Nat} {M:Mem} {call:CallM} {K:Array Value→Mem→R} :
 opsK Try.prog (fun _=>call) (O3 [1,0]) (O3 [1,0]).toList 0 #[g0,.slice Y1 l1 y1,g2,g3,g4,g5,g6,g7,g8,g9,gA,gB,gC,gD,gE,gF,gG,gH,gI,gJ,gK,gL,gM,gN,gO,gP,gQ,gR,gS,gT,gU,gV,gW,gX,gY,gZ,hA,hB,hC,hD,hE,hF,hG,hH,hI,hJ,hK,hL,hM,hN,hO,hP,hQ,hR,hS,hT,hU,hV,hW,hX,hY,hZ,h0,h1,h2,h3,h4,h5,h6] M K=(call 9 #[.slice Y1 l1 y1] M).bind fun r_1=>(asS r_1.1).bind fun s_2=>K #[g0,.slice Y1 l1 y1,g2,g3,g4,.slice s_2.1 (s_2.2.1) (s_2.2.2),g6,g7,g8,g9,gA,gB,gC,gD,.slice Y1 l1 y1,.slice s_2.1 (s_2.2.1) (s_2.2.2),gG,gH,gI,gJ,gK,gL,gM,gN,gO,gP,gQ,gR,gS,gT,gU,gV,gW,gX,gY,gZ,hA,hB,hC,hD,hE,hF,hG,hH,hI,hJ,hK,hL,hM,hN,hO,hP,hQ,hR,hS,hT,hU,hV,hW,hX,hY,hZ,h0,h1,h2,h3,h4,h5,h6] r_1.2:=by kernel_rfl
theorem k3_4:P3 [1,1]=.seq (P3 [1,1,0]) (P3 [1,1,1]):=by kernel_rfl
theorem k3_5:P3 [1,1,0]=.region 2 (O3 [1,1,0]) false:=by kernel_rfl
theorem r3_2 {x2:Option Addr} {M:Mem} {call:CallM} {K:Array Value→Mem→R} :
 opsK Try.prog (fun _=>call) (O3 [1,1,0]) (O3 [1,1,0]).toList 0 #[g0,g1,.pointer x2,g3,g4,g5,g6,g7,g8,g9,gA,gB,gC,gD,gE,gF,gG,gH,gI,gJ,gK,gL,gM,gN,gO,gP,gQ,gR,gS,gT,gU,gV,gW,gX,gY,gZ,hA,hB,hC,hD,hE,hF,hG,hH,hI,hJ,hK,hL,hM,hN,hO,hP,hQ,hR,hS,hT,hU,hV,hW,hX,hY,hZ,h0,h1,h2,h3,h4,h5,h6] M K=(x2).bind fun a_1=>(M.intAt .i64 a_1.block a_1.off).bind fun x_2=>(M.intAt .i64 a_1.block (a_1.off+1)).bind fun x_3=>(call 10 #[.agg #[.int .i64 x_2,.int .i64 x_3]] M).bind fun r_4=>(asU 2 r_4.1).bind fun cs_5=>(asS (cs_5.getD 0 undef)).bind fun s_6=>(asI .i64 (cs_5.getD 1 undef)).bind fun x_7=>K #[g0,g1,.pointer x2,g3,g4,g5,.slice s_6.1 (s_6.2.1) (s_6.2.2),.int .i64 x_7,g8,g9,gA,gB,gC,gD,gE,gF,.tuple #[.slice s_6.1 (s_6.2.1) (s_6.2.2),.int .i64 x_7],.agg #[.int .i64 x_2,.int .i64 x_3],.tuple #[.slice s_6.1 (s_6.2.1) (s_6.2.2),.int .i64 x_7],.slice s_6.1 (s_6.2.1) (s_6.2.2),.int .i64 x_7,gL,gM,gN,gO,gP,gQ,gR,gS,gT,gU,gV,gW,gX,gY,gZ,hA,hB,hC,hD,hE,hF,hG,hH,hI,hJ,hK,hL,hM,hN,hO,hP,hQ,hR,hS,hT,hU,hV,hW,hX,hY,hZ,h0,h1,h2,h3,h4,h5,h6] r_4.2:=by kernel_rfl
theorem k3_6:P3 [1,1,1]=.seq (P3 [1,1,1,0]) (P3 [1,1,1,1]):=by kernel_rfl
theorem k3_7:P3 [1,1,1,0]=.region 3 (O3 [1,1,1,0]) false:=by kernel_rfl
theorem r3_3 {x2:Option Addr} {M:Mem} {call:CallM} {K:Array Value→Mem→R} :
 opsK Try.prog (fun _=>call) (O3 [1,1,1,0]) (O3 [1,1,1,0]).toList 0 #[g0,g1,.pointer x2,g3,g4,g5,g6,g7,g8,g9,gA,gB,gC,gD,gE,gF,gG,gH,gI,gJ,gK,gL,gM,gN,gO,gP,gQ,gR,gS,gT,gU,gV,gW,gX,gY,gZ,hA,hB,hC,hD,hE,hF,hG,hH,hI,hJ,hK,hL,hM,hN,hO,hP,hQ,hR,hS,hT,hU,hV,hW,hX,hY,hZ,h0,h1,h2,h3,h4,h5,h6] M K=(x2).bind fun a_1=>(M.intAt .i64 a_1.block a_1.off).bind fun x_2=>(M.intAt .i64 a_1.block (a_1.off+1)).bind fun x_3=>(call 11 #[.agg #[.int .i64 x_2,.int .i64 x_3]] M).bind fun r_4=>(asU 2 r_4.1).bind fun cs_5=>(asS (cs_5.getD 0 undef)).bind fun s_6=>(asI .i64 (cs_5.getD 1 undef)).bind fun x_7=>K #[g0,g1,.pointer x2,g3,g4,g5,g6,g7,.slice s_6.1 (s_6.2.1) (s_6.2.2),.int .i64 x_7,gA,gB,gC,gD,gE,gF,gG,gH,gI,gJ,gK,.tuple #[.slice s_6.1 (s_6.2.1) (s_6.2.2),.int .i64 x_7],.agg #[.int .i64 x_2,.int .i64 x_3],.tuple #[.slice s_6.1 (s_6.2.1) (s_6.2.2),.int .i64 x_7],.slice s_6.1 (s_6.2.1) (s_6.2.2),.int .i64 x_7,gQ,gR,gS,gT,gU,gV,gW,gX,gY,gZ,hA,hB,hC,hD,hE,hF,hG,hH,hI,hJ,hK,hL,hM,hN,hO,hP,hQ,hR,hS,hT,hU,hV,hW,hX,hY,hZ,h0,h1,h2,h3,h4,h5,h6] r_4.2:=by kernel_rfl
theorem k3_8:P3 [1,1,1,1]=.seq (P3 [1,1,1,1,0]) (P3 [1,1,1,1,1]):=by kernel_rfl
theorem k3_9:P3 [1,1,1,1,0]=.region 4 (O3 [1,1,1,1,0]) false:=by kernel_rfl
theorem r3_4 {Y5:Option Addr} {l5 y5:Nat} {M:Mem} {call:CallM} {K:Array Value→Mem→R} :
 opsK Try.prog (fun _=>call) (O3 [1,1,1,1,0]) (O3 [1,1,1,1,0]).toList 0 #[g0,g1,g2,g3,g4,.slice Y5 l5 y5,g6,g7,g8,g9,gA,gB,gC,gD,gE,gF,gG,gH,gI,gJ,gK,gL,gM,gN,gO,gP,gQ,gR,gS,gT,gU,gV,gW,gX,gY,gZ,hA,hB,hC,hD,hE,hF,hG,hH,hI,hJ,hK,hL,hM,hN,hO,hP,hQ,hR,hS,hT,hU,hV,hW,hX,hY,hZ,h0,h1,h2,h3,h4,h5,h6] M K=(call 12 #[.slice Y5 l5 y5] M).bind fun r_1=>(asU 2 r_1.1).bind fun cs_2=>(asA 2 (cs_2.getD 0 undef)).bind fun cs_3=>(asI .i64 (cs_3.getD 0 undef)).bind fun x_4=>(asI .i64 (cs_3.getD 1 undef)).bind fun x_5=>(asI .i64 (cs_2.getD 1 undef)).bind fun x_6=>((r_1.2.new (.cells #[.int .i64 0,.int .i64 0] 23)).put (2*r_1.2.nb.size) 0 (.int .i64 x_4)).bind fun M_7=>(M_7.put (2*r_1.2.nb.size) 1 (.int .i64 x_5)).bind fun M_8=>K #[g0,g1,g2,g3,g4,.slice Y5 l5 y5,g6,g7,g8,g9,.pointer (some ⟨2*r_1.2.nb.size,0,none⟩),.int .i64 x_6,gC,gD,gE,gF,gG,gH,gI,gJ,gK,gL,gM,gN,gO,gP,.tuple #[.agg #[.int .i64 x_4,.int .i64 x_5],.int .i64 x_6],.slice Y5 l5 y5,.tuple #[.agg #[.int .i64 x_4,.int .i64 x_5],.int .i64 x_6],.agg #[.int .i64 x_4,.int .i64 x_5],.int .i64 x_6,gV,gW,gX,gY,gZ,hA,hB,hC,hD,hE,hF,hG,hH,hI,hJ,hK,hL,hM,hN,hO,hP,hQ,hR,hS,hT,hU,hV,hW,hX,hY,hZ,h0,h1,h2,h3,h4,h5,h6] M_8:=by kernel_rfl
theorem k3_10:P3 [1,1,1,1,1]=.seq (P3 [1,1,1,1,1,0]) (P3 [1,1,1,1,1,1]):=by kernel_rfl
theorem k3_11:P3 [1,1,1,1,1,0]=.region 5 (O3 [1,1,1,1,1,0]) false:=by kernel_rfl
theorem r3_5 {Y1:Option Addr} {l1 y1:Nat} {M:Mem} {call:CallM} {K:Array Value→Mem→R} :
 opsK Try.prog (fun _=>call) (O3 [1,1,1,1,1,0]) (O3 [1,1,1,1,1,0]).toList 0 #[g0,.slice Y1 l1 y1,g2,g3,g4,g5,g6,g7,g8,g9,gA,gB,gC,gD,gE,gF,gG,gH,gI,gJ,gK,gL,gM,gN,gO,gP,gQ,gR,gS,gT,gU,gV,gW,gX,gY,gZ,hA,hB,hC,hD,hE,hF,hG,hH,hI,hJ,hK,hL,hM,hN,hO,hP,hQ,hR,hS,hT,hU,hV,hW,hX,hY,hZ,h0,h1,h2,h3,h4,h5,h6] M K=(call 13 #[.slice Y1 l1 y1] M).bind fun r_1=>(asU 2 r_1.1).bind fun cs_2=>(asA 2 (cs_2.getD 0 undef)).bind fun cs_3=>(asI .i64 (cs_3.getD 0 undef)).bind fun x_4=>(asI .i64 (cs_3.getD 1 undef)).bind fun x_5=>(asI .i64 (cs_2.getD 1 undef)).bind fun x_6=>((r_1.2.new (.cells #[.int .i64 0,.int .i64 0] 23)).put (2*r_1.2.nb.size) 0 (.int .i64 x_4)).bind fun M_7=>(M_7.put (2*r_1.2.nb.size) 1 (.int .i64 x_5)).bind fun M_8=>K #[g0,.slice Y1 l1 y1,g2,g3,g4,g5,g6,g7,g8,g9,gA,gB,.pointer (some ⟨2*r_1.2.nb.size,0,none⟩),.int .i64 x_6,gE,gF,gG,gH,gI,gJ,gK,gL,gM,gN,gO,gP,gQ,gR,gS,gT,gU,.tuple #[.agg #[.int .i64 x_4,.int .i64 x_5],.int .i64 x_6],.slice Y1 l1 y1,.tuple #[.agg #[.int .i64 x_4,.int .i64 x_5],.int .i64 x_6],.agg #[.int .i64 x_4,.int .i64 x_5],.int .i64 x_6,hA,hB,hC,hD,hE,hF,hG,hH,hI,hJ,hK,hL,hM,hN,hO,hP,hQ,hR,hS,hT,hU,hV,hW,hX,hY,hZ,h0,h1,h2,h3,h4,h5,h6] M_8:=by kernel_rfl
theorem k3_12:P3 [1,1,1,1,1,1]=.seq (P3 [1,1,1,1,1,1,0]) (P3 [1,1,1,1,1,1,1]):=by kernel_rfl
theorem k3_14:P3 [1,1,1,1,1,1,0]=.region 6 (O3 [1,1,1,1,1,1,0]) true∧(!true || drawOk (O3 [1,1,1,1,1,1,0]))=true:=⟨by kernel_rfl,by kernel_rfl⟩
theorem r3_6p0 {x2:Option Addr} {x7 x9:Int} {M:Mem} {call:CallM} {K:Array Value→Mem→R} :
 segK Try.prog true call (O3 [1,1,1,1,1,1,0]) 0 11 #[g0,g1,.pointer x2,g3,g4,g5,g6,.int .i64 x7,g8,.int .i64 x9,gA,gB,gC,gD,gE,gF,gG,gH,gI,gJ,gK,gL,gM,gN,gO,gP,gQ,gR,gS,gT,gU,gV,gW,gX,gY,gZ,hA,hB,hC,hD,hE,hF,hG,hH,hI,hJ,hK,hL,hM,hN,hO,hP,hQ,hR,hS,hT,hU,hV,hW,hX,hY,hZ,h0,h1,h2,h3,h4,h5,h6] M K=withK (fun w36 w37 w38 w39 w40 w41 w42 w43 w44 w45 w46 M=>K #[g0,g1,.pointer x2,g3,g4,g5,g6,.int .i64 x7,g8,.int .i64 x9,gA,gB,gC,gD,gE,gF,gG,gH,gI,gJ,gK,gL,gM,gN,gO,gP,gQ,gR,gS,gT,gU,gV,gW,gX,gY,gZ,w36,w37,w38,w39,w40,w41,w42,w43,w44,w45,w46,hL,hM,hN,hO,hP,hQ,hR,hS,hT,hU,hV,hW,hX,hY,hZ,h0,h1,h2,h3,h4,h5,h6] M) fun k=>(x2).bind fun a_1=>(M.intAt .i64 a_1.block a_1.off).bind fun x_2=>(M.intAt .i64 a_1.block (a_1.off+1)).bind fun x_3=>(x2).bind fun a_4=>(M.intAt .i64 a_4.block a_4.off).bind fun x_5=>(M.intAt .i64 a_4.block (a_4.off+1)).bind fun x_6=>(floored call 14 #[.agg #[.int .i64 x_2,.int .i64 x_3]] M).bind fun r_7=>(asI .i64 r_7.1).bind fun x_8=>(call 15 #[.agg #[.int .i64 x_5,.int .i64 x_6]] r_7.2).bind fun r_9=>(asI .i64 r_9.1).bind fun x_10=>cond (x_8 == x_10) (k (.agg #[.int .i64 x_2,.int .i64 x_3]) (.int .i64 x_8) (.agg #[.int .i64 x_5,.int .i64 x_6]) (.int .i64 x_10) (.bool (x_8 == x_10)) (.bool true) (.int .i64 x7) (.int .i64 x9) (.bool (x7 == x9)) (.bool (x7 == x9)) (.bool (x7 == x9)) r_9.2) (k (.agg #[.int .i64 x_2,.int .i64 x_3]) (.int .i64 x_8) (.agg #[.int .i64 x_5,.int .i64 x_6]) (.int .i64 x_10) (.bool (x_8 == x_10)) (.bool false) undef undef undef (.bool false) (.bool false) r_9.2):=by kernel_rfl
theorem r3_6p11 {Y6:Option Addr} {l6 y6:Nat} {Y8:Option Addr} {l8 y8:Nat} {x46:Bool} {M:Mem} {call:CallM} {K:Array Value→Mem→R} :
 segK Try.prog true call (O3 [1,1,1,1,1,1,0]) 11 5 #[g0,g1,g2,g3,g4,g5,.slice Y6 l6 y6,g7,.slice Y8 l8 y8,g9,gA,gB,gC,gD,gE,gF,gG,gH,gI,gJ,gK,gL,gM,gN,gO,gP,gQ,gR,gS,gT,gU,gV,gW,gX,gY,gZ,hA,hB,hC,hD,hE,hF,hG,hH,hI,hJ,.bool x46,hL,hM,hN,hO,hP,hQ,hR,hS,hT,hU,hV,hW,hX,hY,hZ,h0,h1,h2,h3,h4,h5,h6] M K=withK (fun w46 w47 w48 w49 w50 w51 M=>K #[g0,g1,g2,g3,g4,g5,.slice Y6 l6 y6,g7,.slice Y8 l8 y8,g9,gA,gB,gC,gD,gE,gF,gG,gH,gI,gJ,gK,gL,gM,gN,gO,gP,gQ,gR,gS,gT,gU,gV,gW,gX,gY,gZ,hA,hB,hC,hD,hE,hF,hG,hH,hI,hJ,w46,w47,w48,w49,w50,w51,hQ,hR,hS,hT,hU,hV,hW,hX,hY,hZ,h0,h1,h2,h3,h4,h5,h6] M) fun k=>cond x46 ((call 16 #[.slice Y6 l6 y6,.slice Y8 l8 y8] M).bind fun r_1=>(asB r_1.1).bind fun b_2=>k (.bool true) (.slice Y6 l6 y6) (.slice Y8 l8 y8) (.bool b_2) (.bool b_2) (.bool b_2) r_1.2) (k (.bool false) undef undef undef (.bool false) (.bool false) M):=by kernel_rfl
theorem r3_6p16 {x10 x12:Option Addr} {x51:Bool} {M:Mem} {call:CallM} {K:Array Value→Mem→R} :
 segK Try.prog true call (O3 [1,1,1,1,1,1,0]) 16 5 #[g0,g1,g2,g3,g4,g5,g6,g7,g8,g9,.pointer x10,gB,.pointer x12,gD,gE,gF,gG,gH,gI,gJ,gK,gL,gM,gN,gO,gP,gQ,gR,gS,gT,gU,gV,gW,gX,gY,gZ,hA,hB,hC,hD,hE,hF,hG,hH,hI,hJ,hK,hL,hM,hN,hO,.bool x51,hQ,hR,hS,hT,hU,hV,hW,hX,hY,hZ,h0,h1,h2,h3,h4,h5,h6] M K=withK (fun w51 w52 w53 w54 w55 w56 M=>K #[g0,g1,g2,g3,g4,g5,g6,g7,g8,g9,.pointer x10,gB,.pointer x12,gD,gE,gF,gG,gH,gI,gJ,gK,gL,gM,gN,gO,gP,gQ,gR,gS,gT,gU,gV,gW,gX,gY,gZ,hA,hB,hC,hD,hE,hF,hG,hH,hI,hJ,hK,hL,hM,hN,hO,w51,w52,w53,w54,w55,w56,hV,hW,hX,hY,hZ,h0,h1,h2,h3,h4,h5,h6] M) fun k=>cond x51 ((x10).bind fun a_1=>(M.intAt .i64 a_1.block a_1.off).bind fun x_2=>(M.intAt .i64 a_1.block (a_1.off+1)).bind fun x_3=>(x12).bind fun a_4=>(M.intAt .i64 a_4.block a_4.off).bind fun x_5=>(M.intAt .i64 a_4.block (a_4.off+1)).bind fun x_6=>(binV Try.prog .eql 23 23 (.agg #[.int .i64 x_2,.int .i64 x_3]) (.agg #[.int .i64 x_5,.int .i64 x_6])).bind fun v_7=>(asB v_7).bind fun b_8=>k (.bool true) (.agg #[.int .i64 x_2,.int .i64 x_3]) (.agg #[.int .i64 x_5,.int .i64 x_6]) (.bool b_8) (.bool b_8) (.bool b_8) M) (k (.bool false) undef undef undef (.bool false) (.bool false) M):=by kernel_rfl
theorem r3_6p21 {x11 x13:Int} {x56:Bool} {M:Mem} {call:CallM} {K:Array Value→Mem→R} :
 segK Try.prog true call (O3 [1,1,1,1,1,1,0]) 21 5 #[g0,g1,g2,g3,g4,g5,g6,g7,g8,g9,gA,.int .i64 x11,gC,.int .i64 x13,gE,gF,gG,gH,gI,gJ,gK,gL,gM,gN,gO,gP,gQ,gR,gS,gT,gU,gV,gW,gX,gY,gZ,hA,hB,hC,hD,hE,hF,hG,hH,hI,hJ,hK,hL,hM,hN,hO,hP,hQ,hR,hS,hT,.bool x56,hV,hW,hX,hY,hZ,h0,h1,h2,h3,h4,h5,h6] M K=withK (fun w56 w57 w58 w59 w60 w61 M=>K #[g0,g1,g2,g3,g4,g5,g6,g7,g8,g9,gA,.int .i64 x11,gC,.int .i64 x13,gE,gF,gG,gH,gI,gJ,gK,gL,gM,gN,gO,gP,gQ,gR,gS,gT,gU,gV,gW,gX,gY,gZ,hA,hB,hC,hD,hE,hF,hG,hH,hI,hJ,hK,hL,hM,hN,hO,hP,hQ,hR,hS,hT,w56,w57,w58,w59,w60,w61,h0,h1,h2,h3,h4,h5,h6] M) fun k=>cond x56 (k (.bool true) (.int .i64 x11) (.int .i64 x13) (.bool (x11 == x13)) (.bool (x11 == x13)) (.bool (x11 == x13)) M) (k (.bool false) undef undef undef (.bool false) (.bool false) M):=by kernel_rfl
theorem r3_6p26 {Y1:Option Addr} {l1 y1:Nat} {Y5:Option Addr} {l5 y5:Nat} {x61:Bool} {M:Mem} {call:CallM} {K:Array Value→Mem→R} :
 segK Try.prog true call (O3 [1,1,1,1,1,1,0]) 26 5 #[g0,.slice Y1 l1 y1,g2,g3,g4,.slice Y5 l5 y5,g6,g7,g8,g9,gA,gB,gC,gD,gE,gF,gG,gH,gI,gJ,gK,gL,gM,gN,gO,gP,gQ,gR,gS,gT,gU,gV,gW,gX,gY,gZ,hA,hB,hC,hD,hE,hF,hG,hH,hI,hJ,hK,hL,hM,hN,hO,hP,hQ,hR,hS,hT,hU,hV,hW,hX,hY,.bool x61,h0,h1,h2,h3,h4,h5,h6] M K=withK (fun w61 w62 w63 w64 w65 w66 M=>K #[g0,.slice Y1 l1 y1,g2,g3,g4,.slice Y5 l5 y5,g6,g7,g8,g9,gA,gB,gC,gD,gE,gF,gG,gH,gI,gJ,gK,gL,gM,gN,gO,gP,gQ,gR,gS,gT,gU,gV,gW,gX,gY,gZ,hA,hB,hC,hD,hE,hF,hG,hH,hI,hJ,hK,hL,hM,hN,hO,hP,hQ,hR,hS,hT,hU,hV,hW,hX,hY,w61,w62,w63,w64,w65,w66,h5,h6] M) fun k=>cond x61 ((call 16 #[.slice Y5 l5 y5,.slice Y1 l1 y1] M).bind fun r_1=>(asB r_1.1).bind fun b_2=>k (.bool true) (.slice Y5 l5 y5) (.slice Y1 l1 y1) (.bool b_2) (.bool b_2) (.bool b_2) r_1.2) (k (.bool false) undef undef undef (.bool false) (.bool false) M):=by kernel_rfl
theorem r3_6p31 {x66:Bool} {M:Mem} {call:CallM} {K:Array Value→Mem→R} :
 segK Try.prog true call (O3 [1,1,1,1,1,1,0]) 31 3 #[g0,g1,g2,g3,g4,g5,g6,g7,g8,g9,gA,gB,gC,gD,gE,gF,gG,gH,gI,gJ,gK,gL,gM,gN,gO,gP,gQ,gR,gS,gT,gU,gV,gW,gX,gY,gZ,hA,hB,hC,hD,hE,hF,hG,hH,hI,hJ,hK,hL,hM,hN,hO,hP,hQ,hR,hS,hT,hU,hV,hW,hX,hY,hZ,h0,h1,h2,h3,.bool x66,h5,h6] M K=withK (fun w4 w66 w67 w68 M=>K #[g0,g1,g2,g3,w4,g5,g6,g7,g8,g9,gA,gB,gC,gD,gE,gF,gG,gH,gI,gJ,gK,gL,gM,gN,gO,gP,gQ,gR,gS,gT,gU,gV,gW,gX,gY,gZ,hA,hB,hC,hD,hE,hF,hG,hH,hI,hJ,hK,hL,hM,hN,hO,hP,hQ,hR,hS,hT,hU,hV,hW,hX,hY,hZ,h0,h1,h2,h3,w66,w67,w68] M) fun k=>cond x66 ((call 17 #[] M).bind fun r_1=>(asB r_1.1).bind fun b_2=>k (.bool b_2) (.bool true) (.bool b_2) (.bool b_2) r_1.2) (k (.bool false) (.bool false) undef (.bool false) M):=by kernel_rfl
theorem k3_15:P3 [1,1,1,1,1,1,1]=.ret:=by kernel_rfl
theorem e3 {M:Mem}:finish Try.prog Try.f3 #[g0,g1,g2,g3,g4,g5,g6,g7,g8,g9,gA,gB,gC,gD,gE,gF,gG,gH,gI,gJ,gK,gL,gM,gN,gO,gP,gQ,gR,gS,gT,gU,gV,gW,gX,gY,gZ,hA,hB,hC,hD,hE,hF,hG,hH,hI,hJ,hK,hL,hM,hN,hO,hP,hQ,hR,hS,hT,hU,hV,hW,hX,hY,hZ,h0,h1,h2,h3,h4,h5,h6] M=some (g4,M):=by kernel_rfl
noncomputable def S3_1:List Item:=[.code (P3 [1,1,1,1,1,1,1])]
def A3_1 (Y1:Option Addr) (l1 y1:Nat) (Y5:Option Addr) (l5 y5:Nat) (Y6:Option Addr) (l6 y6:Nat) (Y8:Option Addr) (l8 y8:Nat) (x10:Option Addr) (x11:Int) (x12:Option Addr) (x13:Int) (x46:Bool) (M:Mem) (Q:Value→Mem→Prop):Prop:=∀ (g0 g2 g3 g4 g7 g9 gE gF gG gH gI gJ gK gL gM gN gO gP gQ gR gS gT gU gV gW gX gY gZ hA hB hC hD hE hF hG hH hI hJ hL hM hN hO hP hQ hR hS hT hU hV hW hX hY hZ h0 h1 h2 h3 h4 h5 h6:Value),Rg Try.prog Try.f3 (O3 [1,1,1,1,1,1,0]) true 11 S3_1 #[g0,.slice Y1 l1 y1,g2,g3,g4,.slice Y5 l5 y5,.slice Y6 l6 y6,g7,.slice Y8 l8 y8,g9,.pointer x10,.int .i64 x11,.pointer x12,.int .i64 x13,gE,gF,gG,gH,gI,gJ,gK,gL,gM,gN,gO,gP,gQ,gR,gS,gT,gU,gV,gW,gX,gY,gZ,hA,hB,hC,hD,hE,hF,hG,hH,hI,hJ,.bool x46,hL,hM,hN,hO,hP,hQ,hR,hS,hT,hU,hV,hW,hX,hY,hZ,h0,h1,h2,h3,h4,h5,h6] M Q
noncomputable def S3_2:List Item:=[.code (P3 [1,1,1,1,1,1,1])]
def A3_2 (Y1:Option Addr) (l1 y1:Nat) (Y5:Option Addr) (l5 y5:Nat) (x10:Option Addr) (x11:Int) (x12:Option Addr) (x13:Int) (x51:Bool) (M:Mem) (Q:Value→Mem→Prop):Prop:=∀ (g0 g2 g3 g4 g6 g7 g8 g9 gE gF gG gH gI gJ gK gL gM gN gO gP gQ gR gS gT gU gV gW gX gY gZ hA hB hC hD hE hF hG hH hI hJ hK hL hM hN hO hQ hR hS hT hU hV hW hX hY hZ h0 h1 h2 h3 h4 h5 h6:Value),Rg Try.prog Try.f3 (O3 [1,1,1,1,1,1,0]) true 16 S3_2 #[g0,.slice Y1 l1 y1,g2,g3,g4,.slice Y5 l5 y5,g6,g7,g8,g9,.pointer x10,.int .i64 x11,.pointer x12,.int .i64 x13,gE,gF,gG,gH,gI,gJ,gK,gL,gM,gN,gO,gP,gQ,gR,gS,gT,gU,gV,gW,gX,gY,gZ,hA,hB,hC,hD,hE,hF,hG,hH,hI,hJ,hK,hL,hM,hN,hO,.bool x51,hQ,hR,hS,hT,hU,hV,hW,hX,hY,hZ,h0,h1,h2,h3,h4,h5,h6] M Q
noncomputable def S3_3:List Item:=[.code (P3 [1,1,1,1,1,1,1])]
def A3_3 (Y1:Option Addr) (l1 y1:Nat) (Y5:Option Addr) (l5 y5:Nat) (x11 x13:Int) (x56:Bool) (M:Mem) (Q:Value→Mem→Prop):Prop:=∀ (g0 g2 g3 g4 g6 g7 g8 g9 gA gC gE gF gG gH gI gJ gK gL gM gN gO gP gQ gR gS gT gU gV gW gX gY gZ hA hB hC hD hE hF hG hH hI hJ hK hL hM hN hO hP hQ hR hS hT hV hW hX hY hZ h0 h1 h2 h3 h4 h5 h6:Value),Rg Try.prog Try.f3 (O3 [1,1,1,1,1,1,0]) true 21 S3_3 #[g0,.slice Y1 l1 y1,g2,g3,g4,.slice Y5 l5 y5,g6,g7,g8,g9,gA,.int .i64 x11,gC,.int .i64 x13,gE,gF,gG,gH,gI,gJ,gK,gL,gM,gN,gO,gP,gQ,gR,gS,gT,gU,gV,gW,gX,gY,gZ,hA,hB,hC,hD,hE,hF,hG,hH,hI,hJ,hK,hL,hM,hN,hO,hP,hQ,hR,hS,hT,.bool x56,hV,hW,hX,hY,hZ,h0,h1,h2,h3,h4,h5,h6] M Q
noncomputable def S3_4:List Item:=[.code (P3 [1,1,1,1,1,1,1])]
def A3_4 (Y1:Option Addr) (l1 y1:Nat) (Y5:Option Addr) (l5 y5:Nat) (x61:Bool) (M:Mem) (Q:Value→Mem→Prop):Prop:=∀ (g0 g2 g3 g4 g6 g7 g8 g9 gA gB gC gD gE gF gG gH gI gJ gK gL gM gN gO gP gQ gR gS gT gU gV gW gX gY gZ hA hB hC hD hE hF hG hH hI hJ hK hL hM hN hO hP hQ hR hS hT hU hV hW hX hY h0 h1 h2 h3 h4 h5 h6:Value),Rg Try.prog Try.f3 (O3 [1,1,1,1,1,1,0]) true 26 S3_4 #[g0,.slice Y1 l1 y1,g2,g3,g4,.slice Y5 l5 y5,g6,g7,g8,g9,gA,gB,gC,gD,gE,gF,gG,gH,gI,gJ,gK,gL,gM,gN,gO,gP,gQ,gR,gS,gT,gU,gV,gW,gX,gY,gZ,hA,hB,hC,hD,hE,hF,hG,hH,hI,hJ,hK,hL,hM,hN,hO,hP,hQ,hR,hS,hT,hU,hV,hW,hX,hY,.bool x61,h0,h1,h2,h3,h4,h5,h6] M Q
noncomputable def S3_5:List Item:=[.code (P3 [1,1,1,1,1,1,1])]
def A3_5 (x66:Bool) (M:Mem) (Q:Value→Mem→Prop):Prop:=∀ (g0 g1 g2 g3 g4 g5 g6 g7 g8 g9 gA gB gC gD gE gF gG gH gI gJ gK gL gM gN gO gP gQ gR gS gT gU gV gW gX gY gZ hA hB hC hD hE hF hG hH hI hJ hK hL hM hN hO hP hQ hR hS hT hU hV hW hX hY hZ h0 h1 h2 h3 h5 h6:Value),Rg Try.prog Try.f3 (O3 [1,1,1,1,1,1,0]) true 31 S3_5 #[g0,g1,g2,g3,g4,g5,g6,g7,g8,g9,gA,gB,gC,gD,gE,gF,gG,gH,gI,gJ,gK,gL,gM,gN,gO,gP,gQ,gR,gS,gT,gU,gV,gW,gX,gY,gZ,hA,hB,hC,hD,hE,hF,hG,hH,hI,hJ,hK,hL,hM,hN,hO,hP,hQ,hR,hS,hT,hU,hV,hW,hX,hY,hZ,h0,h1,h2,h3,.bool x66,h5,h6] M Q
theorem w3_0 {x0_0 x0_1:Int} {Y1:Option Addr} {l1 y1:Nat} {M:Mem} {Q:Value→Mem→Prop} (H :
 Cn Try.prog 9 #[.slice Y1 l1 y1] (M.new (.cells #[.int .i64 x0_0,.int .i64 x0_1] 23)) fun v1' N1'=>
 ∃s2',asS v1'=some s2'∧
 ∃x3',N1'.intAt .i64 (2*M.nb.size) 0=some x3'∧
 ∃x4',N1'.intAt .i64 (2*M.nb.size) (0+1)=some x4'∧
 Cn Try.prog 10 #[.agg #[.int .i64 x3',.int .i64 x4']] N1' fun v5' N5'=>
 ∃cs6',asU 2 v5'=some cs6'∧
 ∃s7',asS (cs6'.getD 0 undef)=some s7'∧
 ∃x8',asI .i64 (cs6'.getD 1 undef)=some x8'∧
 ∃x9',N5'.intAt .i64 (2*M.nb.size) 0=some x9'∧
 ∃x10',N5'.intAt .i64 (2*M.nb.size) (0+1)=some x10'∧
 Cn Try.prog 11 #[.agg #[.int .i64 x9',.int .i64 x10']] N5' fun v11' N11'=>
 ∃cs12',asU 2 v11'=some cs12'∧
 ∃s13',asS (cs12'.getD 0 undef)=some s13'∧
 ∃x14',asI .i64 (cs12'.getD 1 undef)=some x14'∧
 Cn Try.prog 12 #[.slice s2'.1 s2'.2.1 s2'.2.2] N11' fun v15' N15'=>
 ∃cs16',asU 2 v15'=some cs16'∧
 ∃cs17',asA 2 (cs16'.getD 0 undef)=some cs17'∧
 ∃x18',asI .i64 (cs17'.getD 0 undef)=some x18'∧
 ∃x19',asI .i64 (cs17'.getD 1 undef)=some x19'∧
 ∃x20',asI .i64 (cs16'.getD 1 undef)=some x20'∧
 ∃M21',(N15'.new (.cells #[.int .i64 0,.int .i64 0] 23)).put (2*N15'.nb.size) 0 (.int .i64 x18')=some M21'∧
 ∃M22',M21'.put (2*N15'.nb.size) 1 (.int .i64 x19')=some M22'∧
 Cn Try.prog 13 #[.slice Y1 l1 y1] M22' fun v23' N23'=>
 ∃cs24',asU 2 v23'=some cs24'∧
 ∃cs25',asA 2 (cs24'.getD 0 undef)=some cs25'∧
 ∃x26',asI .i64 (cs25'.getD 0 undef)=some x26'∧
 ∃x27',asI .i64 (cs25'.getD 1 undef)=some x27'∧
 ∃x28',asI .i64 (cs24'.getD 1 undef)=some x28'∧
 ∃M29',(N23'.new (.cells #[.int .i64 0,.int .i64 0] 23)).put (2*N23'.nb.size) 0 (.int .i64 x26')=some M29'∧
 ∃M30',M29'.put (2*N23'.nb.size) 1 (.int .i64 x27')=some M30'∧
 ∃x31',M30'.intAt .i64 (2*M.nb.size) 0=some x31'∧
 ∃x32',M30'.intAt .i64 (2*M.nb.size) (0+1)=some x32'∧
 ∃x33',M30'.intAt .i64 (2*M.nb.size) 0=some x33'∧
 ∃x34',M30'.intAt .i64 (2*M.nb.size) (0+1)=some x34'∧
 Cn Try.prog 14 #[.agg #[.int .i64 x31',.int .i64 x32']] {M30' with floor:=M30'.nb.size} fun v35' N35'=>
 ∃x36',asI .i64 v35'=some x36'∧
 Cn Try.prog 15 #[.agg #[.int .i64 x33',.int .i64 x34']] {N35' with floor:=M30'.floor} fun v37' N37'=>
 ∃x38',asI .i64 v37'=some x38'∧
 ((x36'=x38'→
 A3_1 Y1 l1 y1 s2'.1 s2'.2.1 s2'.2.2 s7'.1 s7'.2.1 s7'.2.2 s13'.1 s13'.2.1 s13'.2.2 (some ⟨2*N15'.nb.size,0,none⟩) x20' (some ⟨2*N23'.nb.size,0,none⟩) x28' (x8' == x14') N37' Q)∧
 (x36'≠x38'→
 A3_1 Y1 l1 y1 s2'.1 s2'.2.1 s2'.2.2 s7'.1 s7'.2.1 s7'.2.2 s13'.1 s13'.2.1 s13'.2.2 (some ⟨2*N15'.nb.size,0,none⟩) x20' (some ⟨2*N23'.nb.size,0,none⟩) x28' false N37' Q))):
 Cn Try.prog 3 #[.agg #[.int .i64 x0_0,.int .i64 x0_1],.slice Y1 l1 y1] M Q:=by
  refine Cn.of b3 d3 t3 ?_
  refine Rn.seq k3_0 (Rn.region k3_1 (fun call K=>r3_0) (Rch.leaf (Rn.seq k3_2 (Rn.region k3_3 (fun call K=>r3_1) (Rch.call H fun v1' N1' H=>Rch.ex H fun s2' H=>Rch.leaf (Rn.seq k3_4 (Rn.region k3_5 (fun call K=>r3_2) (Rch.bind (x:=⟨2*M.nb.size,0,none⟩) rfl (Rch.ex H fun x3' H=>?_)))))))))
  refine Rch.ex H fun x4' H=>Rch.call H fun v5' N5' H=>Rch.ex H fun cs6' H=>Rch.ex H fun s7' H=>Rch.ex H fun x8' H=>Rch.leaf (Rn.seq k3_6 (Rn.region k3_7 (fun call K=>r3_3) (Rch.bind (x:=⟨2*M.nb.size,0,none⟩) rfl (Rch.ex H fun x9' H=>Rch.ex H fun x10' H=>Rch.call H fun v11' N11' H=>?_))))
  refine Rch.ex H fun cs12' H=>Rch.ex H fun s13' H=>Rch.ex H fun x14' H=>Rch.leaf (Rn.seq k3_8 (Rn.region k3_9 (fun call K=>r3_4) (Rch.call H fun v15' N15' H=>Rch.ex H fun cs16' H=>Rch.ex H fun cs17' H=>Rch.ex H fun x18' H=>Rch.ex H fun x19' H=>Rch.ex H fun x20' H=>?_)))
  refine Rch.ex H fun M21' H=>Rch.ex H fun M22' H=>Rch.leaf (Rn.seq k3_10 (Rn.region k3_11 (fun call K=>r3_5) (Rch.call H fun v23' N23' H=>Rch.ex H fun cs24' H=>Rch.ex H fun cs25' H=>Rch.ex H fun x26' H=>Rch.ex H fun x27' H=>Rch.ex H fun x28' H=>Rch.ex H fun M29' H=>?_)))
  refine Rch.ex H fun M30' H=>Rch.leaf (Rn.seq k3_12 (Rn.regionC k3_14 (Rg.step (d:=11) (j:=11) (fun call K=>r3_6p0) rfl rfl (Rch.bind (x:=⟨2*M.nb.size,0,none⟩) rfl (Rch.ex H fun x31' H=>Rch.ex H fun x32' H=>Rch.bind (x:=⟨2*M.nb.size,0,none⟩) rfl (Rch.ex H fun x33' H=>Rch.ex H fun x34' H=>Rch.callF H fun v35' N35' H=>?_))))))
  refine Rch.ex H fun x36' H=>Rch.call H fun v37' N37' H=>Rch.ex H fun x38' H=>?_
  refine Rch.cB (fun h=>?_) (fun h=>?_)
  · replace H:=H.1 (eq_of_beq h)
    refine Rch.rest ?_
    exact H ..
  · replace H:=H.2 (ne_of_beq_false h)
    refine Rch.rest ?_
    exact H ..
theorem w3_1 {Y1:Option Addr} {l1 y1:Nat} {Y5:Option Addr} {l5 y5:Nat} {Y6:Option Addr} {l6 y6:Nat} {Y8:Option Addr} {l8 y8:Nat} {x10:Option Addr} {x11:Int} {x12:Option Addr} {x13:Int} {x46:Bool} {M:Mem} {Q:Value→Mem→Prop} (H :
 ((x46=true→
 Cn Try.prog 16 #[.slice Y6 l6 y6,.slice Y8 l8 y8] M fun v39' N39'=>
 ∃b40',asB v39'=some b40'∧
 A3_2 Y1 l1 y1 Y5 l5 y5 x10 x11 x12 x13 b40' N39' Q)∧
 (x46=false→
 A3_2 Y1 l1 y1 Y5 l5 y5 x10 x11 x12 x13 false M Q))):
 A3_1 Y1 l1 y1 Y5 l5 y5 Y6 l6 y6 Y8 l8 y8 x10 x11 x12 x13 x46 M Q:=by
  iterate 60 intro _
  refine Rg.step (d:=5) (j:=16) (fun call K=>r3_6p11) rfl rfl ?_
  refine Rch.cB (fun h=>?_) (fun h=>?_)
  · replace H:=H.1 (h)
    refine Rch.call H fun v39' N39' H=>Rch.ex H fun b40' H=>Rch.rest ?_
    exact H ..
  · replace H:=H.2 (h)
    refine Rch.rest ?_
    exact H ..
theorem w3_2 {Y1:Option Addr} {l1 y1:Nat} {Y5:Option Addr} {l5 y5:Nat} {x10:Option Addr} {x11:Int} {x12:Option Addr} {x13:Int} {x51:Bool} {M:Mem} {Q:Value→Mem→Prop} (H :
 ((x51=true→
 ∃a41',x10=some a41'∧
 ∃x42',M.intAt .i64 a41'.block a41'.off=some x42'∧
 ∃x43',M.intAt .i64 a41'.block (a41'.off+1)=some x43'∧
 ∃a44',x12=some a44'∧
 ∃x45',M.intAt .i64 a44'.block a44'.off=some x45'∧
 ∃x46',M.intAt .i64 a44'.block (a44'.off+1)=some x46'∧
 ∃v47',binV Try.prog .eql 23 23 (.agg #[.int .i64 x42',.int .i64 x43']) (.agg #[.int .i64 x45',.int .i64 x46'])=some v47'∧
 ∃b48',asB v47'=some b48'∧
 A3_3 Y1 l1 y1 Y5 l5 y5 x11 x13 b48' M Q)∧
 (x51=false→
 A3_3 Y1 l1 y1 Y5 l5 y5 x11 x13 false M Q))):
 A3_2 Y1 l1 y1 Y5 l5 y5 x10 x11 x12 x13 x51 M Q:=by
  iterate 62 intro _
  refine Rg.step (d:=5) (j:=21) (fun call K=>r3_6p16) rfl rfl ?_
  refine Rch.cB (fun h=>?_) (fun h=>?_)
  · replace H:=H.1 (h)
    refine Rch.ex H fun a41' H=>Rch.ex H fun x42' H=>Rch.ex H fun x43' H=>Rch.ex H fun a44' H=>Rch.ex H fun x45' H=>Rch.ex H fun x46' H=>Rch.ex H fun v47' H=>Rch.ex H fun b48' H=>Rch.rest ?_
    exact H ..
  · replace H:=H.2 (h)
    refine Rch.rest ?_
    exact H ..
theorem w3_3 {Y1:Option Addr} {l1 y1:Nat} {Y5:Option Addr} {l5 y5:Nat} {x11 x13:Int} {x56:Bool} {M:Mem} {Q:Value→Mem→Prop} (H :
 ((x56=true→
 A3_4 Y1 l1 y1 Y5 l5 y5 (x11 == x13) M Q)∧
 (x56=false→
 A3_4 Y1 l1 y1 Y5 l5 y5 false M Q))):
 A3_3 Y1 l1 y1 Y5 l5 y5 x11 x13 x56 M Q:=by
  iterate 64 intro _
  refine Rg.step (d:=5) (j:=26) (fun call K=>r3_6p21) rfl rfl ?_
  refine Rch.cB (fun h=>?_) (fun h=>?_)
  · replace H:=H.1 (h)
    refine Rch.rest ?_
    exact H ..
  · replace H:=H.2 (h)
    refine Rch.rest ?_
    exact H ..
theorem w3_4 {Y1:Option Addr} {l1 y1:Nat} {Y5:Option Addr} {l5 y5:Nat} {x61:Bool} {M:Mem} {Q:Value→Mem→Prop} (H :
 ((x61=true→
 Cn Try.prog 16 #[.slice Y5 l5 y5,.slice Y1 l1 y1] M fun v49' N49'=>
 ∃b50',asB v49'=some b50'∧
 A3_5 b50' N49' Q)∧
 (x61=false→
 A3_5 false M Q))):
 A3_4 Y1 l1 y1 Y5 l5 y5 x61 M Q:=by
  iterate 66 intro _
  refine Rg.step (d:=5) (j:=31) (fun call K=>r3_6p26) rfl rfl ?_
  refine Rch.cB (fun h=>?_) (fun h=>?_)
  · replace H:=H.1 (h)
    refine Rch.call H fun v49' N49' H=>Rch.ex H fun b50' H=>Rch.rest ?_
    exact H ..
  · replace H:=H.2 (h)
    refine Rch.rest ?_
    exact H ..
theorem w3_5 {x66:Bool} {M:Mem} {Q:Value→Mem→Prop} (H :
 ((x66=true→
 Cn Try.prog 17 #[] M fun v51' N51'=>
 ∃b52',asB v51'=some b52'∧
 Q (.bool b52') N51')∧
 (x66=false→
 Q (.bool false) M))):
 A3_5 x66 M Q:=by
  iterate 68 intro _
  refine Rg.step (d:=3) (j:=34) (fun call K=>r3_6p31) rfl rfl ?_
  refine Rch.cB (fun h=>?_) (fun h=>?_)
  · replace H:=H.1 (h)
    refine Rch.call H fun v51' N51' H=>Rch.ex H fun b52' H=>Rch.rest (Rg.done rfl ?_)
    exact Rn.ret k3_15 e3 H
  · replace H:=H.2 (h)
    refine Rch.rest (Rg.done rfl ?_)
    exact Rn.ret k3_15 e3 H
end Go.Zt
