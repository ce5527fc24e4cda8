/- The functions' walks: for each function and each loop a rule of what it comes to. Printed by zw.py. -/
import Derived.Test.YtgepgbblmodagaaProg
import Derived.Test.YtgepgbblmodagaaZkA
set_option linter.unusedVariables false
set_option maxRecDepth 100000
namespace Go.Zt
open Go Go.Sim Go.Proofs
variable {g0 g1 g2 g3 g4 g5 g6 g7 g8 g9 gA gB gC gD gE gF gG gH gI gJ gK gL gM gN gO gP:Value}
noncomputable abbrev P9 (p:List Nat):Code:=subC (codeOf Try.f9) p
noncomputable abbrev O9 (p:List Nat):Array Oper:=opsOf (subC (codeOf Try.f9) p)
theorem b9:Try.prog.funcs[9]?=some Try.f9∧(Orc.tab Try.prog).lookup 9=none:=⟨by kernel_rfl,by kernel_rfl⟩
theorem d9:Try.f9.body=some (P9 []):=by kernel_rfl
theorem t9 {Y0:Option Addr} {l0 y0:Nat}:#[.slice Y0 l0 y0] ++ Array.replicate (Try.f9.ntmps-(#[.slice Y0 l0 y0]:Array Value).size) undef=#[.slice Y0 l0 y0,undef,undef,undef,undef,undef,undef,undef]:=by kernel_rfl
theorem k9_0:P9 []=.seq (P9 [0]) (P9 [1]):=by kernel_rfl
theorem k9_1:P9 [0]=.region 0 (O9 [0]) false:=by kernel_rfl
theorem r9_0 {M:Mem} {call:CallM} {K:Array Value→Mem→R} :
 opsK Try.prog (fun _=>call) (O9 [0]) (O9 [0]).toList 0 #[g0,g1,g2,g3,g4,g5,g6,g7] M K=K #[g0,g1,.slice none 0 0,g3,g4,g5,g6,g7] M:=by kernel_rfl
theorem k9_2:P9 [1]=.seq (P9 [1,0]) (P9 [1,1]):=by kernel_rfl
theorem k9_3:P9 [1,0]=.region 1 (O9 [1,0]) false:=by kernel_rfl
theorem r9_1 {M:Mem} {call:CallM} {K:Array Value→Mem→R} :
 opsK Try.prog (fun _=>call) (O9 [1,0]) (O9 [1,0]).toList 0 #[g0,g1,g2,g3,g4,g5,g6,g7] M K=K #[g0,g1,g2,.slice none 0 0,g4,g5,g6,g7] M:=by kernel_rfl
theorem k9_4:P9 [1,1]=.seq (P9 [1,1,0]) (P9 [1,1,1]):=by kernel_rfl
theorem k9_5:P9 [1,1,0]=.region 2 (O9 [1,1,0]) false:=by kernel_rfl
theorem r9_2 {Y0:Option Addr} {l0 y0:Nat} {Y3:Option Addr} {l3 y3:Nat} {M:Mem} {call:CallM} {K:Array Value→Mem→R} :
 opsK Try.prog (fun _=>call) (O9 [1,1,0]) (O9 [1,1,0]).toList 0 #[.slice Y0 l0 y0,g1,g2,.slice Y3 l3 y3,g4,g5,g6,g7] M K=(appendP Try.prog #[24,24] (.slice Y3 l3 y3) (.slice Y0 l0 y0) M).bind fun r_1=>(asS r_1.1).bind fun s_2=>K #[.slice Y0 l0 y0,g1,g2,.slice s_2.1 (s_2.2.1) (s_2.2.2),.slice Y3 l3 y3,.slice Y0 l0 y0,.slice s_2.1 (s_2.2.1) (s_2.2.2),g7] r_1.2:=by kernel_rfl
theorem k9_6:P9 [1,1,1]=.seq (P9 [1,1,1,0]) (P9 [1,1,1,1]):=by kernel_rfl
theorem k9_7:P9 [1,1,1,0]=.region 3 (O9 [1,1,1,0]) false:=by kernel_rfl
theorem r9_3 {Y3:Option Addr} {l3 y3:Nat} {M:Mem} {call:CallM} {K:Array Value→Mem→R} :
 opsK Try.prog (fun _=>call) (O9 [1,1,1,0]) (O9 [1,1,1,0]).toList 0 #[g0,g1,g2,.slice Y3 l3 y3,g4,g5,g6,g7] M K=K #[g0,g1,.slice Y3 l3 y3,.slice Y3 l3 y3,g4,g5,g6,.slice Y3 l3 y3] M:=by kernel_rfl
theorem k9_8:P9 [1,1,1,1]=.ret:=by kernel_rfl
theorem e9 {M:Mem}:finish Try.prog Try.f9 #[g0,g1,g2,g3,g4,g5,g6,g7] M=some (g2,M):=by kernel_rfl
theorem w9_0 {Y0:Option Addr} {l0 y0:Nat} {M:Mem} {Q:Value→Mem→Prop} (H :
 ∃r1',appendP Try.prog #[24,24] (.slice none 0 0) (.slice Y0 l0 y0) M=some r1'∧
 ∃s2',asS r1'.1=some s2'∧
 Q (.slice s2'.1 (s2'.2.1) (s2'.2.2)) r1'.2):
 Cn Try.prog 9 #[.slice Y0 l0 y0] M Q:=by
  refine Cn.of b9 d9 t9 ?_
  refine Rn.seq k9_0 (Rn.region k9_1 (fun call K=>r9_0) (Rch.leaf (Rn.seq k9_2 (Rn.region k9_3 (fun call K=>r9_1) (Rch.leaf (Rn.seq k9_4 (Rn.region k9_5 (fun call K=>r9_2) (Rch.ex H fun r1' H=>Rch.ex H fun s2' H=>Rch.leaf (Rn.seq k9_6 ?_)))))))))
  refine Rn.region k9_7 (fun call K=>r9_3) (Rch.leaf ?_)
  exact Rn.ret k9_8 e9 H
noncomputable abbrev P16 (p:List Nat):Code:=subC (codeOf Try.f16) p
noncomputable abbrev O16 (p:List Nat):Array Oper:=opsOf (subC (codeOf Try.f16) p)
theorem b16:Try.prog.funcs[16]?=some Try.f16∧(Orc.tab Try.prog).lookup 16=none:=⟨by kernel_rfl,by kernel_rfl⟩
theorem d16:Try.f16.body=some (P16 []):=by kernel_rfl
theorem t16 {Y0:Option Addr} {l0 y0:Nat} {Y1:Option Addr} {l1 y1:Nat}:#[.slice Y0 l0 y0,.slice Y1 l1 y1] ++ Array.replicate (Try.f16.ntmps-(#[.slice Y0 l0 y0,.slice Y1 l1 y1]:Array Value).size) undef=#[.slice Y0 l0 y0,.slice Y1 l1 y1,undef,undef,undef,undef,undef,undef,undef,undef,undef,undef,undef,undef,undef,undef,undef,undef,undef,undef,undef,undef,undef,undef,undef,undef]:=by kernel_rfl
theorem k16_0:P16 []=.seq (P16 [0]) (P16 [1]):=by kernel_rfl
theorem k16_1:P16 [0]=.region 0 (O16 [0]) false:=by kernel_rfl
theorem r16_0 {M:Mem} {call:CallM} {K:Array Value→Mem→R} :
 opsK Try.prog (fun _=>call) (O16 [0]) (O16 [0]).toList 0 #[g0,g1,g2,g3,g4,g5,g6,g7,g8,g9,gA,gB,gC,gD,gE,gF,gG,gH,gI,gJ,gK,gL,gM,gN,gO,gP] M K=K #[g0,g1,g2,g3,.bool false,g5,g6,g7,g8,g9,gA,gB,gC,gD,gE,gF,gG,gH,gI,gJ,gK,gL,gM,gN,gO,gP] M:=by kernel_rfl
theorem k16_2:P16 [1]=.seq (P16 [1,0]) (P16 [1,1]):=by kernel_rfl
theorem k16_3:P16 [1,0]=.seq (P16 [1,0,0]) (P16 [1,0,1]):=by kernel_rfl
theorem k16_4:P16 [1,0,0]=.region 1 (O16 [1,0,0]) false:=by kernel_rfl
theorem r16_1 {Y0:Option Addr} {l0 y0:Nat} {Y1:Option Addr} {l1 y1:Nat} {M:Mem} {call:CallM} {K:Array Value→Mem→R} :
 opsK Try.prog (fun _=>call) (O16 [1,0,0]) (O16 [1,0,0]).toList 0 #[.slice Y0 l0 y0,.slice Y1 l1 y1,g2,g3,g4,g5,g6,g7,g8,g9,gA,gB,gC,gD,gE,gF,gG,gH,gI,gJ,gK,gL,gM,gN,gO,gP] M K=K #[.slice Y0 l0 y0,.slice Y1 l1 y1,g2,g3,g4,g5,.slice Y0 l0 y0,.int .i64 ((l0:Int)),.slice Y1 l1 y1,.int .i64 ((l1:Int)),.bool (((l0:Int)) != ((l1:Int))),gB,gC,gD,gE,gF,gG,gH,gI,gJ,gK,gL,gM,gN,gO,gP] M:=by kernel_rfl
theorem c16_5:P16 [1,0,1]=.cond (.tmp 10) (P16 [1,0,1,0]) (P16 [1,0,1,1]):=by kernel_rfl
theorem k16_6:P16 [1,0,1,0]=.seq (P16 [1,0,1,0,0]) (P16 [1,0,1,0,1]):=by kernel_rfl
theorem k16_7:P16 [1,0,1,0,0]=.region 2 (O16 [1,0,1,0,0]) false:=by kernel_rfl
theorem r16_2 {M:Mem} {call:CallM} {K:Array Value→Mem→R} :
 opsK Try.prog (fun _=>call) (O16 [1,0,1,0,0]) (O16 [1,0,1,0,0]).toList 0 #[g0,g1,g2,g3,g4,g5,g6,g7,g8,g9,gA,gB,gC,gD,gE,gF,gG,gH,gI,gJ,gK,gL,gM,gN,gO,gP] M K=K #[g0,g1,g2,g3,.bool false,g5,g6,g7,g8,g9,gA,gB,gC,gD,gE,gF,gG,gH,gI,gJ,gK,gL,gM,gN,gO,gP] M:=by kernel_rfl
theorem k16_8:P16 [1,0,1,0,1]=.ret:=by kernel_rfl
theorem e16 {M:Mem}:finish Try.prog Try.f16 #[g0,g1,g2,g3,g4,g5,g6,g7,g8,g9,gA,gB,gC,gD,gE,gF,gG,gH,gI,gJ,gK,gL,gM,gN,gO,gP] M=some (g4,M):=by kernel_rfl
theorem k16_10:P16 [1,0,1,1]=.skip:=by kernel_rfl
theorem k16_11:P16 [1,1]=.seq (P16 [1,1,0]) (P16 [1,1,1]):=by kernel_rfl
theorem k16_12:P16 [1,1,0]=.seq (P16 [1,1,0,0]) (P16 [1,1,0,1]):=by kernel_rfl
theorem k16_13:P16 [1,1,0,0]=.region 3 (O16 [1,1,0,0]) false:=by kernel_rfl
theorem r16_3 {M:Mem} {call:CallM} {K:Array Value→Mem→R} :
 opsK Try.prog (fun _=>call) (O16 [1,1,0,0]) (O16 [1,1,0,0]).toList 0 #[g0,g1,g2,g3,g4,g5,g6,g7,g8,g9,gA,gB,gC,gD,gE,gF,gG,gH,gI,gJ,gK,gL,gM,gN,gO,gP] M K=K #[g0,g1,g2,g3,g4,.int .i64 0,g6,g7,g8,g9,gA,gB,gC,gD,gE,gF,gG,gH,gI,gJ,gK,gL,gM,gN,gO,gP] M:=by kernel_rfl
theorem k16_14:P16 [1,1,0,1]=.block 0 (P16 [1,1,0,1,0]):=by kernel_rfl
theorem k16_15:P16 [1,1,0,1,0]=.loop (P16 [1,1,0,1,0,0]):=by kernel_rfl
theorem k16_16:P16 [1,1,0,1,0,0]=.seq (P16 [1,1,0,1,0,0,0]) (P16 [1,1,0,1,0,0,1]):=by kernel_rfl
theorem k16_17:P16 [1,1,0,1,0,0,0]=.seq (P16 [1,1,0,1,0,0,0,0]) (P16 [1,1,0,1,0,0,0,1]):=by kernel_rfl
theorem k16_18:P16 [1,1,0,1,0,0,0,0]=.region 4 (O16 [1,1,0,1,0,0,0,0]) false:=by kernel_rfl
theorem r16_4 {Y0:Option Addr} {l0 y0:Nat} {x5:Int} {M:Mem} {call:CallM} {K:Array Value→Mem→R} :
 opsK Try.prog (fun _=>call) (O16 [1,1,0,1,0,0,0,0]) (O16 [1,1,0,1,0,0,0,0]).toList 0 #[.slice Y0 l0 y0,g1,g2,g3,g4,.int .i64 x5,g6,g7,g8,g9,gA,gB,gC,gD,gE,gF,gG,gH,gI,gJ,gK,gL,gM,gN,gO,gP] M K=K #[.slice Y0 l0 y0,g1,g2,g3,g4,.int .i64 x5,g6,g7,g8,g9,gA,.int .i64 x5,.slice Y0 l0 y0,.int .i64 ((l0:Int)),.bool (decide (x5<((l0:Int)))),gF,gG,gH,gI,gJ,gK,gL,gM,gN,gO,gP] M:=by kernel_rfl
theorem c16_19:P16 [1,1,0,1,0,0,0,1]=.cond (.tmp 14) (P16 [1,1,0,1,0,0,0,1,0]) (P16 [1,1,0,1,0,0,0,1,1]):=by kernel_rfl
theorem k16_20:P16 [1,1,0,1,0,0,0,1,0]=.skip:=by kernel_rfl
theorem k16_21:P16 [1,1,0,1,0,0,1]=.seq (P16 [1,1,0,1,0,0,1,0]) (P16 [1,1,0,1,0,0,1,1]):=by kernel_rfl
theorem k16_22:P16 [1,1,0,1,0,0,1,0]=.block 1 (P16 [1,1,0,1,0,0,1,0,0]):=by kernel_rfl
theorem k16_23:P16 [1,1,0,1,0,0,1,0,0]=.seq (P16 [1,1,0,1,0,0,1,0,0,0]) (P16 [1,1,0,1,0,0,1,0,0,1]):=by kernel_rfl
theorem k16_24:P16 [1,1,0,1,0,0,1,0,0,0]=.region 6 (O16 [1,1,0,1,0,0,1,0,0,0]) true∧drawOk (O16 [1,1,0,1,0,0,1,0,0,0])=true:=⟨by kernel_rfl,by kernel_rfl⟩
theorem r16_6 {Y0:Option Addr} {l0 y0:Nat} {Y1:Option Addr} {l1 y1:Nat} {x5:Int} {M:Mem} {call:CallM} {K:Array Value→Mem→R} :
    opsI Try.prog (callAt call (O16 [1,1,0,1,0,0,1,0,0,0])) (O16 [1,1,0,1,0,0,1,0,0,0]) (ordOf (O16 [1,1,0,1,0,0,1,0,0,0])) [] #[.slice Y0 l0 y0,.slice Y1 l1 y1,g2,g3,g4,.int .i64 x5,g6,g7,g8,g9,gA,gB,gC,gD,gE,gF,gG,gH,gI,gJ,gK,gL,gM,gN,gO,gP] M K=(idxA Y0 l0 1 x5).bind fun a_1=>(M.intAt .u8 a_1.block a_1.off).bind fun x_2=>(idxA Y1 l1 1 x5).bind fun a_3=>(M.intAt .u8 a_3.block a_3.off).bind fun x_4=>K #[.slice Y0 l0 y0,.slice Y1 l1 y1,g2,g3,g4,.int .i64 x5,g6,g7,g8,g9,gA,gB,gC,gD,gE,gF,gG,.slice Y0 l0 y0,.int .i64 x5,.pointer (some a_1),.int .u8 x_2,.slice Y1 l1 y1,.int .i64 x5,.pointer (some a_3),.int .u8 x_4,.bool (x_2 != x_4)] M:=by kernel_rfl
theorem c16_25:P16 [1,1,0,1,0,0,1,0,0,1]=.cond (.tmp 25) (P16 [1,1,0,1,0,0,1,0,0,1,0]) (P16 [1,1,0,1,0,0,1,0,0,1,1]):=by kernel_rfl
theorem k16_26:P16 [1,1,0,1,0,0,1,0,0,1,0]=.seq (P16 [1,1,0,1,0,0,1,0,0,1,0,0]) (P16 [1,1,0,1,0,0,1,0,0,1,0,1]):=by kernel_rfl
theorem k16_27:P16 [1,1,0,1,0,0,1,0,0,1,0,0]=.region 7 (O16 [1,1,0,1,0,0,1,0,0,1,0,0]) false:=by kernel_rfl
theorem r16_7 {M:Mem} {call:CallM} {K:Array Value→Mem→R} :
 opsK Try.prog (fun _=>call) (O16 [1,1,0,1,0,0,1,0,0,1,0,0]) (O16 [1,1,0,1,0,0,1,0,0,1,0,0]).toList 0 #[g0,g1,g2,g3,g4,g5,g6,g7,g8,g9,gA,gB,gC,gD,gE,gF,gG,gH,gI,gJ,gK,gL,gM,gN,gO,gP] M K=K #[g0,g1,g2,g3,.bool false,g5,g6,g7,g8,g9,gA,gB,gC,gD,gE,gF,gG,gH,gI,gJ,gK,gL,gM,gN,gO,gP] M:=by kernel_rfl
theorem k16_28:P16 [1,1,0,1,0,0,1,0,0,1,0,1]=.ret:=by kernel_rfl
theorem k16_29:P16 [1,1,0,1,0,0,1,0,0,1,1]=.skip:=by kernel_rfl
theorem k16_30:P16 [1,1,0,1,0,0,1,1]=.region 5 (O16 [1,1,0,1,0,0,1,1]) false:=by kernel_rfl
theorem r16_5 {x5:Int} {M:Mem} {call:CallM} {K:Array Value→Mem→R} :
 opsK Try.prog (fun _=>call) (O16 [1,1,0,1,0,0,1,1]) (O16 [1,1,0,1,0,0,1,1]).toList 0 #[g0,g1,g2,g3,g4,.int .i64 x5,g6,g7,g8,g9,gA,gB,gC,gD,gE,gF,gG,gH,gI,gJ,gK,gL,gM,gN,gO,gP] M K=K #[g0,g1,g2,g3,g4,.int .i64 (IntKind.i64.wrap (x5+1)),g6,g7,g8,g9,gA,gB,gC,gD,gE,.int .i64 x5,.int .i64 (IntKind.i64.wrap (x5+1)),gH,gI,gJ,gK,gL,gM,gN,gO,gP] M:=by kernel_rfl
theorem k16_31:P16 [1,1,0,1,0,0,0,1,1]=.exit 0:=by kernel_rfl
theorem k16_32:P16 [1,1,1]=.seq (P16 [1,1,1,0]) (P16 [1,1,1,1]):=by kernel_rfl
theorem k16_33:P16 [1,1,1,0]=.region 8 (O16 [1,1,1,0]) false:=by kernel_rfl
theorem r16_8 {M:Mem} {call:CallM} {K:Array Value→Mem→R} :
 opsK Try.prog (fun _=>call) (O16 [1,1,1,0]) (O16 [1,1,1,0]).toList 0 #[g0,g1,g2,g3,g4,g5,g6,g7,g8,g9,gA,gB,gC,gD,gE,gF,gG,gH,gI,gJ,gK,gL,gM,gN,gO,gP] M K=K #[g0,g1,g2,g3,.bool true,g5,g6,g7,g8,g9,gA,gB,gC,gD,gE,gF,gG,gH,gI,gJ,gK,gL,gM,gN,gO,gP] M:=by kernel_rfl
theorem k16_34:P16 [1,1,1,1]=.ret:=by kernel_rfl
noncomputable def S16_1:List Item:=[.code (P16 [1,1,0,1,0,0]),.inLoop (P16 [1,1,0,1,0,0]),.inBlock 0,.code (P16 [1,1,1])]
def A16_1 (Y0:Option Addr) (l0 y0:Nat) (Y1:Option Addr) (l1 y1:Nat) (x5:Int) (M:Mem) (Q:Value→Mem→Prop):Prop:=∀ (g2 g3 g4 g6 g7 g8 g9 gA gB gC gD gE gF gG gH gI gJ gK gL gM gN gO gP:Value),Rn Try.prog Try.f16 S16_1 #[.slice Y0 l0 y0,.slice Y1 l1 y1,g2,g3,g4,.int .i64 x5,g6,g7,g8,g9,gA,gB,gC,gD,gE,gF,gG,gH,gI,gJ,gK,gL,gM,gN,gO,gP] M Q
theorem w16_0 {Y0:Option Addr} {l0 y0:Nat} {Y1:Option Addr} {l1 y1:Nat} {M:Mem} {Q:Value→Mem→Prop} (H :
 ((((l0:Int))≠((l1:Int))→
 Q (.bool false) M)∧
 (((l0:Int))=((l1:Int))→
 A16_1 Y0 l0 y0 Y1 l1 y1 0 M Q))):
 Cn Try.prog 16 #[.slice Y0 l0 y0,.slice Y1 l1 y1] M Q:=by
  refine Cn.of b16 d16 t16 ?_
  refine Rn.seq k16_0 (Rn.region k16_1 (fun call K=>r16_0) (Rch.leaf (Rn.seq k16_2 (Rn.seq k16_3 (Rn.region k16_4 (fun call K=>r16_1) (Rch.leaf ?_))))))
  refine Rn.cnd (v:=((l0:Int)) != ((l1:Int))) ⟨c16_5,rfl,by kernel_rfl⟩ (fun h=>?_) (fun h=>?_)
  · replace H:=H.1 (ne_of_bneT h)
    refine Rn.seq k16_6 (Rn.region k16_7 (fun call K=>r16_2) (Rch.leaf ?_))
    exact Rn.ret k16_8 e16 H
  · replace H:=H.2 (eq_of_bneF h)
    refine Rn.skip k16_10 (Rn.seq k16_11 (Rn.seq k16_12 (Rn.region k16_13 (fun call K=>r16_3) (Rch.leaf (Rn.block k16_14 (Rn.loop k16_15 ?_))))))
    exact H ..
theorem w16_1 {Y0:Option Addr} {l0 y0:Nat} {Y1:Option Addr} {l1 y1:Nat} {x5:Int} {M:Mem} {Q:Value→Mem→Prop} (H :
 ((x5<((l0:Int))→
 ∃a1',idxA Y0 l0 1 x5=some a1'∧
 ∃x2',M.intAt .u8 a1'.block a1'.off=some x2'∧
 ∃a3',idxA Y1 l1 1 x5=some a3'∧
 ∃x4',M.intAt .u8 a3'.block a3'.off=some x4'∧
 ((x2'≠x4'→
 Q (.bool false) M)∧
 (x2'=x4'→
 A16_1 Y0 l0 y0 Y1 l1 y1 (IntKind.i64.wrap (x5+1)) M Q)))∧
 (¬(x5<((l0:Int)))→
 Q (.bool true) M))):
 A16_1 Y0 l0 y0 Y1 l1 y1 x5 M Q:=by
  iterate 23 intro _
  refine Rn.seq k16_16 (Rn.seq k16_17 (Rn.region k16_18 (fun call K=>r16_4) (Rch.leaf ?_)))
  refine Rn.cnd (v:=decide (x5<((l0:Int)))) ⟨c16_19,rfl,by kernel_rfl⟩ (fun h=>?_) (fun h=>?_)
  · replace H:=H.1 (of_decide_eq_true h)
    refine Rn.skip k16_20 (Rn.seq k16_21 (Rn.block k16_22 (Rn.seq k16_23 (Rn.regionD k16_24 (fun call K=>r16_6) (Rch.ex H fun a1' H=>Rch.ex H fun x2' H=>Rch.ex H fun a3' H=>Rch.ex H fun x4' H=>Rch.leaf ?_)))))
    refine Rn.cnd (v:=x2' != x4') ⟨c16_25,rfl,by kernel_rfl⟩ (fun h=>?_) (fun h=>?_)
    · replace H:=H.1 (ne_of_bneT h)
      refine Rn.seq k16_26 (Rn.region k16_27 (fun call K=>r16_7) (Rch.leaf ?_))
      exact Rn.ret k16_28 e16 H
    · replace H:=H.2 (eq_of_bneF h)
      refine Rn.skip k16_29 (Rn.blk (Rn.region k16_30 (fun call K=>r16_5) (Rch.leaf (Rn.lp ?_))))
      exact H ..
  · replace H:=H.2 (of_decide_eq_false h)
    refine Rn.exit k16_31 rfl (Rn.seq k16_32 (Rn.region k16_33 (fun call K=>r16_8) (Rch.leaf ?_)))
    exact Rn.ret k16_34 e16 H
noncomputable abbrev P21 (p:List Nat):Code:=subC (codeOf Try.f21) p
noncomputable abbrev O21 (p:List Nat):Array Oper:=opsOf (subC (codeOf Try.f21) p)
theorem b21:Try.prog.funcs[21]?=some Try.f21∧(Orc.tab Try.prog).lookup 21=none:=⟨by kernel_rfl,by kernel_rfl⟩
theorem d21:Try.f21.body=some (P21 []):=by kernel_rfl
theorem t21 {x0 x1:Int}:#[.int .i64 x0,.int .i64 x1] ++ Array.replicate (Try.f21.ntmps-(#[.int .i64 x0,.int .i64 x1]:Array Value).size) undef=#[.int .i64 x0,.int .i64 x1,undef,undef,undef,undef,undef,undef,undef,undef,undef,undef,undef,undef,undef,undef]:=by kernel_rfl
theorem k21_0:P21 []=.seq (P21 [0]) (P21 [1]):=by kernel_rfl
theorem k21_1:P21 [0]=.region 0 (O21 [0]) false:=by kernel_rfl
theorem r21_0 {M:Mem} {call:CallM} {K:Array Value→Mem→R} :
 opsK Try.prog (fun _=>call) (O21 [0]) (O21 [0]).toList 0 #[g0,g1,g2,g3,g4,g5,g6,g7,g8,g9,gA,gB,gC,gD,gE,gF] M K=K #[g0,g1,g2,g3,.int .i64 0,g5,g6,g7,g8,g9,gA,gB,gC,gD,gE,gF] M:=by kernel_rfl
theorem k21_2:P21 [1]=.seq (P21 [1,0]) (P21 [1,1]):=by kernel_rfl
theorem k21_3:P21 [1,0]=.seq (P21 [1,0,0]) (P21 [1,0,1]):=by kernel_rfl
theorem k21_4:P21 [1,0,0]=.region 1 (O21 [1,0,0]) false:=by kernel_rfl
theorem r21_1 {x1:Int} {M:Mem} {call:CallM} {K:Array Value→Mem→R} :
 opsK Try.prog (fun _=>call) (O21 [1,0,0]) (O21 [1,0,0]).toList 0 #[g0,.int .i64 x1,g2,g3,g4,g5,g6,g7,g8,g9,gA,gB,gC,gD,gE,gF] M K=K #[g0,.int .i64 x1,g2,g3,g4,.int .i64 x1,.bool (decide (x1≤0)),g7,g8,g9,gA,gB,gC,gD,gE,gF] M:=by kernel_rfl
theorem c21_5:P21 [1,0,1]=.cond (.tmp 6) (P21 [1,0,1,0]) (P21 [1,0,1,1]):=by kernel_rfl
theorem k21_6:P21 [1,0,1,0]=.seq (P21 [1,0,1,0,0]) (P21 [1,0,1,0,1]):=by kernel_rfl
theorem k21_7:P21 [1,0,1,0,0]=.region 2 (O21 [1,0,1,0,0]) false:=by kernel_rfl
theorem r21_2 {M:Mem} {call:CallM} {K:Array Value→Mem→R} :
 opsK Try.prog (fun _=>call) (O21 [1,0,1,0,0]) (O21 [1,0,1,0,0]).toList 0 #[g0,g1,g2,g3,g4,g5,g6,g7,g8,g9,gA,gB,gC,gD,gE,gF] M K=K #[g0,g1,g2,g3,.int .i64 0,g5,g6,g7,g8,g9,gA,gB,gC,gD,gE,gF] M:=by kernel_rfl
theorem k21_8:P21 [1,0,1,0,1]=.ret:=by kernel_rfl
theorem e21 {M:Mem}:finish Try.prog Try.f21 #[g0,g1,g2,g3,g4,g5,g6,g7,g8,g9,gA,gB,gC,gD,gE,gF] M=some (g4,M):=by kernel_rfl
theorem k21_10:P21 [1,0,1,1]=.skip:=by kernel_rfl
theorem k21_11:P21 [1,1]=.seq (P21 [1,1,0]) (P21 [1,1,1]):=by kernel_rfl
theorem k21_12:P21 [1,1,0]=.region 3 (O21 [1,1,0]) false:=by kernel_rfl
theorem r21_3 {x0 x1:Int} {M:Mem} {call:CallM} {K:Array Value→Mem→R} :
 opsK Try.prog (fun _=>call) (O21 [1,1,0]) (O21 [1,1,0]).toList 0 #[.int .i64 x0,.int .i64 x1,g2,g3,g4,g5,g6,g7,g8,g9,gA,gB,gC,gD,gE,gF] M K=(binV Try.prog .rem 3 3 (.int .i64 x0) (.int .i64 x1)).bind fun v_1=>(asI .i64 v_1).bind fun x_2=>K #[.int .i64 x_2,.int .i64 x1,g2,g3,g4,g5,g6,.int .i64 x0,.int .i64 x1,.int .i64 x_2,gA,gB,gC,gD,gE,gF] M:=by kernel_rfl
theorem k21_13:P21 [1,1,1]=.seq (P21 [1,1,1,0]) (P21 [1,1,1,1]):=by kernel_rfl
theorem k21_14:P21 [1,1,1,0]=.seq (P21 [1,1,1,0,0]) (P21 [1,1,1,0,1]):=by kernel_rfl
theorem k21_15:P21 [1,1,1,0,0]=.region 4 (O21 [1,1,1,0,0]) false:=by kernel_rfl
theorem r21_4 {x0:Int} {M:Mem} {call:CallM} {K:Array Value→Mem→R} :
 opsK Try.prog (fun _=>call) (O21 [1,1,1,0,0]) (O21 [1,1,1,0,0]).toList 0 #[.int .i64 x0,g1,g2,g3,g4,g5,g6,g7,g8,g9,gA,gB,gC,gD,gE,gF] M K=K #[.int .i64 x0,g1,g2,g3,g4,g5,g6,g7,g8,g9,.int .i64 x0,.bool (decide (x0<0)),gC,gD,gE,gF] M:=by kernel_rfl
theorem c21_16:P21 [1,1,1,0,1]=.cond (.tmp 11) (P21 [1,1,1,0,1,0]) (P21 [1,1,1,0,1,1]):=by kernel_rfl
theorem k21_17:P21 [1,1,1,0,1,0]=.region 5 (O21 [1,1,1,0,1,0]) false:=by kernel_rfl
theorem r21_5 {x0 x1:Int} {M:Mem} {call:CallM} {K:Array Value→Mem→R} :
 opsK Try.prog (fun _=>call) (O21 [1,1,1,0,1,0]) (O21 [1,1,1,0,1,0]).toList 0 #[.int .i64 x0,.int .i64 x1,g2,g3,g4,g5,g6,g7,g8,g9,gA,gB,gC,gD,gE,gF] M K=K #[.int .i64 (IntKind.i64.wrap (x0+x1)),.int .i64 x1,g2,g3,g4,g5,g6,g7,g8,g9,gA,gB,.int .i64 x0,.int .i64 x1,.int .i64 (IntKind.i64.wrap (x0+x1)),gF] M:=by kernel_rfl
theorem k21_18:P21 [1,1,1,1]=.seq (P21 [1,1,1,1,0]) (P21 [1,1,1,1,1]):=by kernel_rfl
theorem k21_19:P21 [1,1,1,1,0]=.region 6 (O21 [1,1,1,1,0]) false:=by kernel_rfl
theorem r21_6 {x0:Int} {M:Mem} {call:CallM} {K:Array Value→Mem→R} :
 opsK Try.prog (fun _=>call) (O21 [1,1,1,1,0]) (O21 [1,1,1,1,0]).toList 0 #[.int .i64 x0,g1,g2,g3,g4,g5,g6,g7,g8,g9,gA,gB,gC,gD,gE,gF] M K=K #[.int .i64 x0,g1,g2,g3,.int .i64 x0,g5,g6,g7,g8,g9,gA,gB,gC,gD,gE,.int .i64 x0] M:=by kernel_rfl
theorem k21_20:P21 [1,1,1,1,1]=.ret:=by kernel_rfl
theorem k21_21:P21 [1,1,1,0,1,1]=.skip:=by kernel_rfl
theorem w21_0 {x0 x1:Int} {M:Mem} {Q:Value→Mem→Prop} (H :
 ((x1≤0→
 Q (.int .i64 0) M)∧
 (¬(x1≤0)→
 ∃v1',binV Try.prog .rem 3 3 (.int .i64 x0) (.int .i64 x1)=some v1'∧
 ∃x2',asI .i64 v1'=some x2'∧
 ((x2'<0→
 Q (.int .i64 (IntKind.i64.wrap (x2'+x1))) M)∧
 (¬(x2'<0)→
 Q (.int .i64 (x2')) M))))):
 Cn Try.prog 21 #[.int .i64 x0,.int .i64 x1] M Q:=by
  refine Cn.of b21 d21 t21 ?_
  refine Rn.seq k21_0 (Rn.region k21_1 (fun call K=>r21_0) (Rch.leaf (Rn.seq k21_2 (Rn.seq k21_3 (Rn.region k21_4 (fun call K=>r21_1) (Rch.leaf ?_))))))
  refine Rn.cnd (v:=decide (x1≤0)) ⟨c21_5,rfl,by kernel_rfl⟩ (fun h=>?_) (fun h=>?_)
  · replace H:=H.1 (of_decide_eq_true h)
    refine Rn.seq k21_6 (Rn.region k21_7 (fun call K=>r21_2) (Rch.leaf ?_))
    exact Rn.ret k21_8 e21 H
  · replace H:=H.2 (of_decide_eq_false h)
    refine Rn.skip k21_10 (Rn.seq k21_11 (Rn.region k21_12 (fun call K=>r21_3) (Rch.ex H fun v1' H=>Rch.ex H fun x2' H=>Rch.leaf (Rn.seq k21_13 (Rn.seq k21_14 (Rn.region k21_15 (fun call K=>r21_4) (Rch.leaf ?_)))))))
    refine Rn.cnd (v:=decide (x2'<0)) ⟨c21_16,rfl,by kernel_rfl⟩ (fun h=>?_) (fun h=>?_)
    · replace H:=H.1 (of_decide_eq_true h)
      refine Rn.region k21_17 (fun call K=>r21_5) (Rch.leaf (Rn.seq k21_18 (Rn.region k21_19 (fun call K=>r21_6) (Rch.leaf ?_))))
      exact Rn.ret k21_20 e21 H
    · replace H:=H.2 (of_decide_eq_false h)
      refine Rn.skip k21_21 (Rn.seq k21_18 (Rn.region k21_19 (fun call K=>r21_6) (Rch.leaf ?_)))
      exact Rn.ret k21_20 e21 H
end Go.Zt
