/- The functions' walks: for each function and each loop a rule of what it comes to. Printed by zw.py. -/
import Derived.Test.YtnhfoiijkadajaaProg
import Derived.Test.YtnhfoiijkadajaaZeA
set_option linter.unusedVariables false
set_option maxRecDepth 100000
namespace Go.Zt
open Go Go.Sim Go.Proofs
variable {g0 g1 g2 g3 g4 g5 g6 g7 g8 g9 gA gB gC gD gE gF gG gH gI gJ gK gL gM gN gO gP gQ gR gS gT gU gV gW gX gY gZ hA hB hC hD hE hF hG hH hI hJ hK hL hM hN hO hP:Value}
noncomputable abbrev P3 (p:List Nat):Code:=subC (codeOf Try.f3) p
noncomputable abbrev O3 (p:List Nat):Array Oper:=opsOf (subC (codeOf Try.f3) p)
theorem b3:Try.prog.funcs[3]?=some Try.f3∧(Orc.tab Try.prog).lookup 3=none:=⟨by kernel_rfl,by kernel_rfl⟩
theorem d3:Try.f3.body=some (P3 []):=by kernel_rfl
theorem t3 {Y0:Option Addr} {l0 y0:Nat} {x1:Int} {Y2:Option Addr} {l2 y2:Nat}:#[.slice Y0 l0 y0,.int .i64 x1,.slice Y2 l2 y2] ++ Array.replicate (Try.f3.ntmps-(#[.slice Y0 l0 y0,.int .i64 x1,.slice Y2 l2 y2]:Array Value).size) undef=#[.slice Y0 l0 y0,.int .i64 x1,.slice Y2 l2 y2,undef,undef,undef,undef,undef,undef,undef,undef,undef,undef,undef,undef,undef,undef,undef,undef,undef,undef,undef,undef,undef,undef,undef,undef,undef,undef,undef,undef,undef,undef,undef,undef,undef,undef,undef,undef,undef,undef,undef,undef,undef,undef,undef,undef,undef,undef,undef,undef,undef]:=by kernel_rfl
theorem k3_0:P3 []=.seq (P3 [0]) (P3 [1]):=by kernel_rfl
theorem k3_1:P3 [0]=.region 0 (O3 [0]) false:=by kernel_rfl
theorem r3_0 {M:Mem} {call:CallM} {K:Array Value→Mem→R} :
 opsK Try.prog (fun _=>call) (O3 [0]) (O3 [0]).toList 0 #[g0,g1,g2,g3,g4,g5,g6,g7,g8,g9,gA,gB,gC,gD,gE,gF,gG,gH,gI,gJ,gK,gL,gM,gN,gO,gP,gQ,gR,gS,gT,gU,gV,gW,gX,gY,gZ,hA,hB,hC,hD,hE,hF,hG,hH,hI,hJ,hK,hL,hM,hN,hO,hP] M K=K #[g0,g1,g2,g3,g4,g5,.bool false,g7,g8,g9,gA,gB,gC,gD,gE,gF,gG,gH,gI,gJ,gK,gL,gM,gN,gO,gP,gQ,gR,gS,gT,gU,gV,gW,gX,gY,gZ,hA,hB,hC,hD,hE,hF,hG,hH,hI,hJ,hK,hL,hM,hN,hO,hP] M:=by kernel_rfl
theorem k3_2:P3 [1]=.seq (P3 [1,0]) (P3 [1,1]):=by kernel_rfl
theorem k3_3:P3 [1,0]=.region 1 (O3 [1,0]) false:=by kernel_rfl
theorem r3_1 {Y0:Option Addr} {l0 y0:Nat} {Y2:Option Addr} {l2 y2:Nat} {M:Mem} {call:CallM} {K:Array Value→Mem→R} :
 opsK Try.prog (fun _=>call) (O3 [1,0]) (O3 [1,0]).toList 0 #[.slice Y0 l0 y0,g1,.slice Y2 l2 y2,g3,g4,g5,g6,g7,g8,g9,gA,gB,gC,gD,gE,gF,gG,gH,gI,gJ,gK,gL,gM,gN,gO,gP,gQ,gR,gS,gT,gU,gV,gW,gX,gY,gZ,hA,hB,hC,hD,hE,hF,hG,hH,hI,hJ,hK,hL,hM,hN,hO,hP] M K=(call 10 #[.slice Y0 l0 y0] M).bind fun r_1=>(asS r_1.1).bind fun s_2=>(call 10 #[.slice Y2 l2 y2] r_1.2).bind fun r_3=>(asS r_3.1).bind fun s_4=>K #[.slice Y0 l0 y0,g1,.slice Y2 l2 y2,g3,g4,g5,g6,.slice s_2.1 (s_2.2.1) (s_2.2.2),.slice s_4.1 (s_4.2.1) (s_4.2.2),g9,gA,gB,gC,.slice Y0 l0 y0,.slice s_2.1 (s_2.2.1) (s_2.2.2),.slice Y2 l2 y2,.slice s_4.1 (s_4.2.1) (s_4.2.2),gH,gI,gJ,gK,gL,gM,gN,gO,gP,gQ,gR,gS,gT,gU,gV,gW,gX,gY,gZ,hA,hB,hC,hD,hE,hF,hG,hH,hI,hJ,hK,hL,hM,hN,hO,hP] r_3.2:=by kernel_rfl
theorem k3_4:P3 [1,1]=.seq (P3 [1,1,0]) (P3 [1,1,1]):=by kernel_rfl
theorem k3_5:P3 [1,1,0]=.region 2 (O3 [1,1,0]) false:=by kernel_rfl
theorem r3_2 {x1:Int} {Y7:Option Addr} {l7 y7:Nat} {Y8:Option Addr} {l8 y8:Nat} {M:Mem} {call:CallM} {K:Array Value→Mem→R} :
 opsK Try.prog (fun _=>call) (O3 [1,1,0]) (O3 [1,1,0]).toList 0 #[g0,.int .i64 x1,g2,g3,g4,g5,g6,.slice Y7 l7 y7,.slice Y8 l8 y8,g9,gA,gB,gC,gD,gE,gF,gG,gH,gI,gJ,gK,gL,gM,gN,gO,gP,gQ,gR,gS,gT,gU,gV,gW,gX,gY,gZ,hA,hB,hC,hD,hE,hF,hG,hH,hI,hJ,hK,hL,hM,hN,hO,hP] M K=(call 11 #[.slice Y7 l7 y7,.int .i64 x1,.slice Y8 l8 y8] M).bind fun r_1=>(asU 2 r_1.1).bind fun cs_2=>(asS (cs_2.getD 0 undef)).bind fun s_3=>(asI .i64 (cs_2.getD 1 undef)).bind fun x_4=>K #[g0,.int .i64 x1,g2,g3,g4,g5,g6,.slice Y7 l7 y7,.slice Y8 l8 y8,.slice s_3.1 (s_3.2.1) (s_3.2.2),.int .i64 x_4,gB,gC,gD,gE,gF,gG,.tuple #[.slice s_3.1 (s_3.2.1) (s_3.2.2),.int .i64 x_4],.slice Y7 l7 y7,.int .i64 x1,.slice Y8 l8 y8,.tuple #[.slice s_3.1 (s_3.2.1) (s_3.2.2),.int .i64 x_4],.slice s_3.1 (s_3.2.1) (s_3.2.2),.int .i64 x_4,gO,gP,gQ,gR,gS,gT,gU,gV,gW,gX,gY,gZ,hA,hB,hC,hD,hE,hF,hG,hH,hI,hJ,hK,hL,hM,hN,hO,hP] r_1.2:=by kernel_rfl
theorem k3_6:P3 [1,1,1]=.seq (P3 [1,1,1,0]) (P3 [1,1,1,1]):=by kernel_rfl
theorem k3_7:P3 [1,1,1,0]=.region 3 (O3 [1,1,1,0]) false:=by kernel_rfl
theorem r3_3 {Y0:Option Addr} {l0 y0:Nat} {x1:Int} {Y2:Option Addr} {l2 y2:Nat} {M:Mem} {call:CallM} {K:Array Value→Mem→R} :
 opsK Try.prog (fun _=>call) (O3 [1,1,1,0]) (O3 [1,1,1,0]).toList 0 #[.slice Y0 l0 y0,.int .i64 x1,.slice Y2 l2 y2,g3,g4,g5,g6,g7,g8,g9,gA,gB,gC,gD,gE,gF,gG,gH,gI,gJ,gK,gL,gM,gN,gO,gP,gQ,gR,gS,gT,gU,gV,gW,gX,gY,gZ,hA,hB,hC,hD,hE,hF,hG,hH,hI,hJ,hK,hL,hM,hN,hO,hP] M K=(call 12 #[.slice Y0 l0 y0,.int .i64 x1,.slice Y2 l2 y2] M).bind fun r_1=>(asU 2 r_1.1).bind fun cs_2=>(asS (cs_2.getD 0 undef)).bind fun s_3=>(asI .i64 (cs_2.getD 1 undef)).bind fun x_4=>K #[.slice Y0 l0 y0,.int .i64 x1,.slice Y2 l2 y2,g3,g4,g5,g6,g7,g8,g9,gA,.slice s_3.1 (s_3.2.1) (s_3.2.2),.int .i64 x_4,gD,gE,gF,gG,gH,gI,gJ,gK,gL,gM,gN,.tuple #[.slice s_3.1 (s_3.2.1) (s_3.2.2),.int .i64 x_4],.slice Y0 l0 y0,.int .i64 x1,.slice Y2 l2 y2,.tuple #[.slice s_3.1 (s_3.2.1) (s_3.2.2),.int .i64 x_4],.slice s_3.1 (s_3.2.1) (s_3.2.2),.int .i64 x_4,gV,gW,gX,gY,gZ,hA,hB,hC,hD,hE,hF,hG,hH,hI,hJ,hK,hL,hM,hN,hO,hP] r_1.2:=by kernel_rfl
theorem k3_8:P3 [1,1,1,1]=.seq (P3 [1,1,1,1,0]) (P3 [1,1,1,1,1]):=by kernel_rfl
theorem k3_10:P3 [1,1,1,1,0]=.region 4 (O3 [1,1,1,1,0]) false∧(!false || drawOk (O3 [1,1,1,1,0]))=true:=⟨by kernel_rfl,by kernel_rfl⟩
theorem r3_4p0 {Y9:Option Addr} {l9 y9:Nat} {x10:Int} {Y11:Option Addr} {l11 y11:Nat} {x12:Int} {M:Mem} {call:CallM} {K:Array Value→Mem→R} :
 segK Try.prog false call (O3 [1,1,1,1,0]) 0 9 #[g0,g1,g2,g3,g4,g5,g6,g7,g8,.slice Y9 l9 y9,.int .i64 x10,.slice Y11 l11 y11,.int .i64 x12,gD,gE,gF,gG,gH,gI,gJ,gK,gL,gM,gN,gO,gP,gQ,gR,gS,gT,gU,gV,gW,gX,gY,gZ,hA,hB,hC,hD,hE,hF,hG,hH,hI,hJ,hK,hL,hM,hN,hO,hP] M K=withK (fun w34 w35 w36 w37 w38 w39 M=>K #[g0,g1,g2,g3,g4,g5,g6,g7,g8,.slice Y9 l9 y9,.int .i64 x10,.slice Y11 l11 y11,.int .i64 x12,gD,gE,gF,gG,gH,gI,gJ,gK,gL,gM,gN,gO,gP,gQ,gR,gS,gT,gU,.int .i64 x10,.int .i64 x12,.bool (x10 == x12),w34,w35,w36,w37,w38,w39,hE,hF,hG,hH,hI,hJ,hK,hL,hM,hN,hO,hP] M) fun k=>cond (x10 == x12) ((call 13 #[.slice Y9 l9 y9,.slice Y11 l11 y11] M).bind fun r_1=>(asB r_1.1).bind fun b_2=>k (.bool true) (.slice Y9 l9 y9) (.slice Y11 l11 y11) (.bool b_2) (.bool b_2) (.bool b_2) r_1.2) (k (.bool false) undef undef undef (.bool false) (.bool false) M):=by kernel_rfl
theorem r3_4p9 {Y0:Option Addr} {l0 y0:Nat} {Y7:Option Addr} {l7 y7:Nat} {x39:Bool} {M:Mem} {call:CallM} {K:Array Value→Mem→R} :
 segK Try.prog false call (O3 [1,1,1,1,0]) 9 5 #[.slice Y0 l0 y0,g1,g2,g3,g4,g5,g6,.slice Y7 l7 y7,g8,g9,gA,gB,gC,gD,gE,gF,gG,gH,gI,gJ,gK,gL,gM,gN,gO,gP,gQ,gR,gS,gT,gU,gV,gW,gX,gY,gZ,hA,hB,hC,.bool x39,hE,hF,hG,hH,hI,hJ,hK,hL,hM,hN,hO,hP] M K=withK (fun w39 w40 w41 w42 w43 w44 M=>K #[.slice Y0 l0 y0,g1,g2,g3,g4,g5,g6,.slice Y7 l7 y7,g8,g9,gA,gB,gC,gD,gE,gF,gG,gH,gI,gJ,gK,gL,gM,gN,gO,gP,gQ,gR,gS,gT,gU,gV,gW,gX,gY,gZ,hA,hB,hC,w39,w40,w41,w42,w43,w44,hJ,hK,hL,hM,hN,hO,hP] M) fun k=>cond x39 ((call 13 #[.slice Y7 l7 y7,.slice Y0 l0 y0] M).bind fun r_1=>(asB r_1.1).bind fun b_2=>k (.bool true) (.slice Y7 l7 y7) (.slice Y0 l0 y0) (.bool b_2) (.bool b_2) (.bool b_2) r_1.2) (k (.bool false) undef undef undef (.bool false) (.bool false) M):=by kernel_rfl
theorem r3_4p14 {Y2:Option Addr} {l2 y2:Nat} {Y8:Option Addr} {l8 y8:Nat} {x44:Bool} {M:Mem} {call:CallM} {K:Array Value→Mem→R} :
 segK Try.prog false call (O3 [1,1,1,1,0]) 14 5 #[g0,g1,.slice Y2 l2 y2,g3,g4,g5,g6,g7,.slice Y8 l8 y8,g9,gA,gB,gC,gD,gE,gF,gG,gH,gI,gJ,gK,gL,gM,gN,gO,gP,gQ,gR,gS,gT,gU,gV,gW,gX,gY,gZ,hA,hB,hC,hD,hE,hF,hG,hH,.bool x44,hJ,hK,hL,hM,hN,hO,hP] M K=withK (fun w44 w45 w46 w47 w48 w49 M=>K #[g0,g1,.slice Y2 l2 y2,g3,g4,g5,g6,g7,.slice Y8 l8 y8,g9,gA,gB,gC,gD,gE,gF,gG,gH,gI,gJ,gK,gL,gM,gN,gO,gP,gQ,gR,gS,gT,gU,gV,gW,gX,gY,gZ,hA,hB,hC,hD,hE,hF,hG,hH,w44,w45,w46,w47,w48,w49,hO,hP] M) fun k=>cond x44 ((call 13 #[.slice Y8 l8 y8,.slice Y2 l2 y2] M).bind fun r_1=>(asB r_1.1).bind fun b_2=>k (.bool true) (.slice Y8 l8 y8) (.slice Y2 l2 y2) (.bool b_2) (.bool b_2) (.bool b_2) r_1.2) (k (.bool false) undef undef undef (.bool false) (.bool false) M):=by kernel_rfl
theorem r3_4p19 {x49:Bool} {M:Mem} {call:CallM} {K:Array Value→Mem→R} :
 segK Try.prog false call (O3 [1,1,1,1,0]) 19 3 #[g0,g1,g2,g3,g4,g5,g6,g7,g8,g9,gA,gB,gC,gD,gE,gF,gG,gH,gI,gJ,gK,gL,gM,gN,gO,gP,gQ,gR,gS,gT,gU,gV,gW,gX,gY,gZ,hA,hB,hC,hD,hE,hF,hG,hH,hI,hJ,hK,hL,hM,.bool x49,hO,hP] M K=withK (fun w6 w49 w50 w51 M=>K #[g0,g1,g2,g3,g4,g5,w6,g7,g8,g9,gA,gB,gC,gD,gE,gF,gG,gH,gI,gJ,gK,gL,gM,gN,gO,gP,gQ,gR,gS,gT,gU,gV,gW,gX,gY,gZ,hA,hB,hC,hD,hE,hF,hG,hH,hI,hJ,hK,hL,hM,w49,w50,w51] M) fun k=>cond x49 ((call 14 #[] M).bind fun r_1=>(asB r_1.1).bind fun b_2=>k (.bool b_2) (.bool true) (.bool b_2) (.bool b_2) r_1.2) (k (.bool false) (.bool false) undef (.bool false) M):=by kernel_rfl
theorem k3_11:P3 [1,1,1,1,1]=.ret:=by kernel_rfl
theorem e3 {M:Mem}:finish Try.prog Try.f3 #[g0,g1,g2,g3,g4,g5,g6,g7,g8,g9,gA,gB,gC,gD,gE,gF,gG,gH,gI,gJ,gK,gL,gM,gN,gO,gP,gQ,gR,gS,gT,gU,gV,gW,gX,gY,gZ,hA,hB,hC,hD,hE,hF,hG,hH,hI,hJ,hK,hL,hM,hN,hO,hP] M=some (g6,M):=by kernel_rfl
noncomputable def S3_1:List Item:=[.code (P3 [1,1,1,1,1])]
def A3_1 (Y0:Option Addr) (l0 y0:Nat) (Y2:Option Addr) (l2 y2:Nat) (Y7:Option Addr) (l7 y7:Nat) (Y8:Option Addr) (l8 y8:Nat) (x39:Bool) (M:Mem) (Q:Value→Mem→Prop):Prop:=∀ (g1 g3 g4 g5 g6 g9 gA gB gC gD gE gF gG gH gI gJ gK gL gM gN gO gP gQ gR gS gT gU gV gW gX gY gZ hA hB hC hE hF hG hH hI hJ hK hL hM hN hO hP:Value),Rg Try.prog Try.f3 (O3 [1,1,1,1,0]) false 9 S3_1 #[.slice Y0 l0 y0,g1,.slice Y2 l2 y2,g3,g4,g5,g6,.slice Y7 l7 y7,.slice Y8 l8 y8,g9,gA,gB,gC,gD,gE,gF,gG,gH,gI,gJ,gK,gL,gM,gN,gO,gP,gQ,gR,gS,gT,gU,gV,gW,gX,gY,gZ,hA,hB,hC,.bool x39,hE,hF,hG,hH,hI,hJ,hK,hL,hM,hN,hO,hP] M Q
noncomputable def S3_2:List Item:=[.code (P3 [1,1,1,1,1])]
def A3_2 (Y2:Option Addr) (l2 y2:Nat) (Y8:Option Addr) (l8 y8:Nat) (x44:Bool) (M:Mem) (Q:Value→Mem→Prop):Prop:=∀ (g0 g1 g3 g4 g5 g6 g7 g9 gA gB gC gD gE gF gG gH gI gJ gK gL gM gN gO gP gQ gR gS gT gU gV gW gX gY gZ hA hB hC hD hE hF hG hH hJ hK hL hM hN hO hP:Value),Rg Try.prog Try.f3 (O3 [1,1,1,1,0]) false 14 S3_2 #[g0,g1,.slice Y2 l2 y2,g3,g4,g5,g6,g7,.slice Y8 l8 y8,g9,gA,gB,gC,gD,gE,gF,gG,gH,gI,gJ,gK,gL,gM,gN,gO,gP,gQ,gR,gS,gT,gU,gV,gW,gX,gY,gZ,hA,hB,hC,hD,hE,hF,hG,hH,.bool x44,hJ,hK,hL,hM,hN,hO,hP] M Q
noncomputable def S3_3:List Item:=[.code (P3 [1,1,1,1,1])]
def A3_3 (x49:Bool) (M:Mem) (Q:Value→Mem→Prop):Prop:=∀ (g0 g1 g2 g3 g4 g5 g6 g7 g8 g9 gA gB gC gD gE gF gG gH gI gJ gK gL gM gN gO gP gQ gR gS gT gU gV gW gX gY gZ hA hB hC hD hE hF hG hH hI hJ hK hL hM hO hP:Value),Rg Try.prog Try.f3 (O3 [1,1,1,1,0]) false 19 S3_3 #[g0,g1,g2,g3,g4,g5,g6,g7,g8,g9,gA,gB,gC,gD,gE,gF,gG,gH,gI,gJ,gK,gL,gM,gN,gO,gP,gQ,gR,gS,gT,gU,gV,gW,gX,gY,gZ,hA,hB,hC,hD,hE,hF,hG,hH,hI,hJ,hK,hL,hM,.bool x49,hO,hP] M Q
theorem w3_0 {Y0:Option Addr} {l0 y0:Nat} {x1:Int} {Y2:Option Addr} {l2 y2:Nat} {M:Mem} {Q:Value→Mem→Prop} (H :
 Cn Try.prog 10 #[.slice Y0 l0 y0] M fun v1' N1'=>
 ∃s2',asS v1'=some s2'∧
 Cn Try.prog 10 #[.slice Y2 l2 y2] N1' fun v3' N3'=>
 ∃s4',asS v3'=some s4'∧
 Cn Try.prog 11 #[.slice s2'.1 s2'.2.1 s2'.2.2,.int .i64 x1,.slice s4'.1 s4'.2.1 s4'.2.2] N3' fun v5' N5'=>
 ∃cs6',asU 2 v5'=some cs6'∧
 ∃s7',asS (cs6'.getD 0 undef)=some s7'∧
 ∃x8',asI .i64 (cs6'.getD 1 undef)=some x8'∧
 Cn Try.prog 12 #[.slice Y0 l0 y0,.int .i64 x1,.slice Y2 l2 y2] N5' fun v9' N9'=>
 ∃cs10',asU 2 v9'=some cs10'∧
 ∃s11',asS (cs10'.getD 0 undef)=some s11'∧
 ∃x12',asI .i64 (cs10'.getD 1 undef)=some x12'∧
 ((x8'=x12'→
 Cn Try.prog 13 #[.slice s7'.1 s7'.2.1 s7'.2.2,.slice s11'.1 s11'.2.1 s11'.2.2] N9' fun v13' N13'=>
 ∃b14',asB v13'=some b14'∧
 A3_1 Y0 l0 y0 Y2 l2 y2 s2'.1 s2'.2.1 s2'.2.2 s4'.1 s4'.2.1 s4'.2.2 b14' N13' Q)∧
 (x8'≠x12'→
 A3_1 Y0 l0 y0 Y2 l2 y2 s2'.1 s2'.2.1 s2'.2.2 s4'.1 s4'.2.1 s4'.2.2 false N9' Q))):
 Cn Try.prog 3 #[.slice Y0 l0 y0,.int .i64 x1,.slice Y2 l2 y2] M Q:=by
  refine Cn.of b3 d3 t3 ?_
  refine Rn.seq k3_0 (Rn.region k3_1 (fun call K=>r3_0) (Rch.leaf (Rn.seq k3_2 (Rn.region k3_3 (fun call K=>r3_1) (Rch.call H fun v1' N1' H=>Rch.ex H fun s2' H=>Rch.call H fun v3' N3' H=>Rch.ex H fun s4' H=>Rch.leaf (Rn.seq k3_4 (Rn.region k3_5 (fun call K=>r3_2) ?_)))))))
  refine Rch.call H fun v5' N5' H=>Rch.ex H fun cs6' H=>Rch.ex H fun s7' H=>Rch.ex H fun x8' H=>Rch.leaf (Rn.seq k3_6 (Rn.region k3_7 (fun call K=>r3_3) (Rch.call H fun v9' N9' H=>Rch.ex H fun cs10' H=>Rch.ex H fun s11' H=>Rch.ex H fun x12' H=>Rch.leaf ?_)))
  refine Rn.seq k3_8 (Rn.regionC k3_10 (Rg.step (d:=9) (j:=9) (fun call K=>r3_4p0) rfl rfl ?_))
  refine Rch.cB (fun h=>?_) (fun h=>?_)
  · replace H:=H.1 (eq_of_beq h)
    refine Rch.call H fun v13' N13' H=>Rch.ex H fun b14' H=>Rch.rest ?_
    exact H ..
  · replace H:=H.2 (ne_of_beq_false h)
    refine Rch.rest ?_
    exact H ..
theorem w3_1 {Y0:Option Addr} {l0 y0:Nat} {Y2:Option Addr} {l2 y2:Nat} {Y7:Option Addr} {l7 y7:Nat} {Y8:Option Addr} {l8 y8:Nat} {x39:Bool} {M:Mem} {Q:Value→Mem→Prop} (H :
 ((x39=true→
 Cn Try.prog 13 #[.slice Y7 l7 y7,.slice Y0 l0 y0] M fun v15' N15'=>
 ∃b16',asB v15'=some b16'∧
 A3_2 Y2 l2 y2 Y8 l8 y8 b16' N15' Q)∧
 (x39=false→
 A3_2 Y2 l2 y2 Y8 l8 y8 false M Q))):
 A3_1 Y0 l0 y0 Y2 l2 y2 Y7 l7 y7 Y8 l8 y8 x39 M Q:=by
  iterate 47 intro _
  refine Rg.step (d:=5) (j:=14) (fun call K=>r3_4p9) rfl rfl ?_
  refine Rch.cB (fun h=>?_) (fun h=>?_)
  · replace H:=H.1 (h)
    refine Rch.call H fun v15' N15' H=>Rch.ex H fun b16' H=>Rch.rest ?_
    exact H ..
  · replace H:=H.2 (h)
    refine Rch.rest ?_
    exact H ..
theorem w3_2 {Y2:Option Addr} {l2 y2:Nat} {Y8:Option Addr} {l8 y8:Nat} {x44:Bool} {M:Mem} {Q:Value→Mem→Prop} (H :
 ((x44=true→
 Cn Try.prog 13 #[.slice Y8 l8 y8,.slice Y2 l2 y2] M fun v17' N17'=>
 ∃b18',asB v17'=some b18'∧
 A3_3 b18' N17' Q)∧
 (x44=false→
 A3_3 false M Q))):
 A3_2 Y2 l2 y2 Y8 l8 y8 x44 M Q:=by
  iterate 49 intro _
  refine Rg.step (d:=5) (j:=19) (fun call K=>r3_4p14) rfl rfl ?_
  refine Rch.cB (fun h=>?_) (fun h=>?_)
  · replace H:=H.1 (h)
    refine Rch.call H fun v17' N17' H=>Rch.ex H fun b18' H=>Rch.rest ?_
    exact H ..
  · replace H:=H.2 (h)
    refine Rch.rest ?_
    exact H ..
theorem w3_3 {x49:Bool} {M:Mem} {Q:Value→Mem→Prop} (H :
 ((x49=true→
 Cn Try.prog 14 #[] M fun v19' N19'=>
 ∃b20',asB v19'=some b20'∧
 Q (.bool b20') N19')∧
 (x49=false→
 Q (.bool false) M))):
 A3_3 x49 M Q:=by
  iterate 51 intro _
  refine Rg.step (d:=3) (j:=22) (fun call K=>r3_4p19) rfl rfl ?_
  refine Rch.cB (fun h=>?_) (fun h=>?_)
  · replace H:=H.1 (h)
    refine Rch.call H fun v19' N19' H=>Rch.ex H fun b20' H=>Rch.rest (Rg.done rfl ?_)
    exact Rn.ret k3_11 e3 H
  · replace H:=H.2 (h)
    refine Rch.rest (Rg.done rfl ?_)
    exact Rn.ret k3_11 e3 H
end Go.Zt
