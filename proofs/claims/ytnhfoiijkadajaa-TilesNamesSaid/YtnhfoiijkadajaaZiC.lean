/- The functions' walks: for each function and each loop a rule of what it comes to. Printed by zw.py. -/
import Derived.Test.YtnhfoiijkadajaaProg
import Derived.Test.YtnhfoiijkadajaaZeA
set_option linter.unusedVariables false
set_option maxRecDepth 100000
namespace Go.Zu
open Go Go.Sim Go.Proofs
variable {g0 g1 g2 g3 g4 g5 g6 g7 g8 g9 gA gB gC gD gE gF gG gH gI gJ gK gL gM gN gO gP gQ gR gS gT gU gV gW gX gY gZ hA hB hC hD hE hF hG hH hI hJ hK hL hM hN hO hP hQ hR hS hT hU:Value}
noncomputable abbrev P21 (p:List Nat):Code:=subC (codeOf Try.f21) p
noncomputable abbrev O21 (p:List Nat):Array Oper:=opsOf (subC (codeOf Try.f21) p)
theorem b21:Try.prog.funcs[21]?=some Try.f21∧(Orc.tab Try.prog).lookup 21=none:=⟨by kernel_rfl,by kernel_rfl⟩
theorem d21:Try.f21.body=some (P21 []):=by kernel_rfl
theorem t21 {Y0:Option Addr} {l0 y0:Nat}:#[.slice Y0 l0 y0] ++ Array.replicate (Try.f21.ntmps-(#[.slice Y0 l0 y0]:Array Value).size) undef=#[.slice Y0 l0 y0,undef,undef,undef,undef,undef,undef,undef]:=by kernel_rfl
theorem k21_0:P21 []=.seq (P21 [0]) (P21 [1]):=by kernel_rfl
theorem k21_1:P21 [0]=.region 0 (O21 [0]) false:=by kernel_rfl
theorem r21_0 {M:Mem} {call:CallM} {K:Array Value→Mem→R} :
 opsK Try.prog (fun _=>call) (O21 [0]) (O21 [0]).toList 0 #[g0,g1,g2,g3,g4,g5,g6,g7] M K=K #[g0,g1,.slice none 0 0,g3,g4,g5,g6,g7] M:=by kernel_rfl
theorem k21_2:P21 [1]=.seq (P21 [1,0]) (P21 [1,1]):=by kernel_rfl
theorem k21_3:P21 [1,0]=.region 1 (O21 [1,0]) false:=by kernel_rfl
theorem r21_1 {M:Mem} {call:CallM} {K:Array Value→Mem→R} :
 opsK Try.prog (fun _=>call) (O21 [1,0]) (O21 [1,0]).toList 0 #[g0,g1,g2,g3,g4,g5,g6,g7] M K=K #[g0,g1,g2,.slice none 0 0,g4,g5,g6,g7] M:=by kernel_rfl
theorem k21_4:P21 [1,1]=.seq (P21 [1,1,0]) (P21 [1,1,1]):=by kernel_rfl
theorem k21_5:P21 [1,1,0]=.region 2 (O21 [1,1,0]) false:=by kernel_rfl
theorem r21_2 {Y0:Option Addr} {l0 y0:Nat} {Y3:Option Addr} {l3 y3:Nat} {M:Mem} {call:CallM} {K:Array Value→Mem→R} :
 opsK Try.prog (fun _=>call) (O21 [1,1,0]) (O21 [1,1,0]).toList 0 #[.slice Y0 l0 y0,g1,g2,.slice Y3 l3 y3,g4,g5,g6,g7] M K=(appendP Try.prog #[46,46] (.slice Y3 l3 y3) (.slice Y0 l0 y0) M).bind fun r_1=>(asS r_1.1).bind fun s_2=>K #[.slice Y0 l0 y0,g1,g2,.slice s_2.1 (s_2.2.1) (s_2.2.2),.slice Y3 l3 y3,.slice Y0 l0 y0,.slice s_2.1 (s_2.2.1) (s_2.2.2),g7] r_1.2:=by kernel_rfl
theorem k21_6:P21 [1,1,1]=.seq (P21 [1,1,1,0]) (P21 [1,1,1,1]):=by kernel_rfl
theorem k21_7:P21 [1,1,1,0]=.region 3 (O21 [1,1,1,0]) false:=by kernel_rfl
theorem r21_3 {Y3:Option Addr} {l3 y3:Nat} {M:Mem} {call:CallM} {K:Array Value→Mem→R} :
 opsK Try.prog (fun _=>call) (O21 [1,1,1,0]) (O21 [1,1,1,0]).toList 0 #[g0,g1,g2,.slice Y3 l3 y3,g4,g5,g6,g7] M K=K #[g0,g1,.slice Y3 l3 y3,.slice Y3 l3 y3,g4,g5,g6,.slice Y3 l3 y3] M:=by kernel_rfl
theorem k21_8:P21 [1,1,1,1]=.ret:=by kernel_rfl
theorem e21 {M:Mem}:finish Try.prog Try.f21 #[g0,g1,g2,g3,g4,g5,g6,g7] M=some (g2,M):=by kernel_rfl
theorem w21_0 {Y0:Option Addr} {l0 y0:Nat} {M:Mem} {Q:Value→Mem→Prop} (H :
 ∃r1',appendP Try.prog #[46,46] (.slice none 0 0) (.slice Y0 l0 y0) M=some r1'∧
 ∃s2',asS r1'.1=some s2'∧
 Q (.slice s2'.1 (s2'.2.1) (s2'.2.2)) r1'.2):
 Cn Try.prog 21 #[.slice Y0 l0 y0] M Q:=by
  refine Cn.of b21 d21 t21 ?_
  refine Rn.seq k21_0 (Rn.region k21_1 (fun call K=>r21_0) (Rch.leaf (Rn.seq k21_2 (Rn.region k21_3 (fun call K=>r21_1) (Rch.leaf (Rn.seq k21_4 (Rn.region k21_5 (fun call K=>r21_2) (Rch.ex H fun r1' H=>Rch.ex H fun s2' H=>Rch.leaf (Rn.seq k21_6 ?_)))))))))
  refine Rn.region k21_7 (fun call K=>r21_3) (Rch.leaf ?_)
  exact Rn.ret k21_8 e21 H
noncomputable abbrev P24 (p:List Nat):Code:=subC (codeOf Try.f24) p
noncomputable abbrev O24 (p:List Nat):Array Oper:=opsOf (subC (codeOf Try.f24) p)
theorem b24:Try.prog.funcs[24]?=some Try.f24∧(Orc.tab Try.prog).lookup 24=none:=⟨by kernel_rfl,by kernel_rfl⟩
theorem d24:Try.f24.body=some (P24 []):=by kernel_rfl
theorem t24 {Y0:Option Addr} {l0 y0:Nat} {Y1:Option Addr} {l1 y1:Nat}:#[.slice Y0 l0 y0,.slice Y1 l1 y1] ++ Array.replicate (Try.f24.ntmps-(#[.slice Y0 l0 y0,.slice Y1 l1 y1]:Array Value).size) undef=#[.slice Y0 l0 y0,.slice Y1 l1 y1,undef,undef,undef,undef,undef,undef,undef,undef,undef,undef,undef,undef,undef,undef,undef,undef,undef,undef,undef,undef,undef,undef,undef,undef]:=by kernel_rfl
theorem k24_0:P24 []=.seq (P24 [0]) (P24 [1]):=by kernel_rfl
theorem k24_1:P24 [0]=.region 0 (O24 [0]) false:=by kernel_rfl
theorem r24_0 {M:Mem} {call:CallM} {K:Array Value→Mem→R} :
 opsK Try.prog (fun _=>call) (O24 [0]) (O24 [0]).toList 0 #[g0,g1,g2,g3,g4,g5,g6,g7,g8,g9,gA,gB,gC,gD,gE,gF,gG,gH,gI,gJ,gK,gL,gM,gN,gO,gP] M K=K #[g0,g1,g2,g3,.bool false,g5,g6,g7,g8,g9,gA,gB,gC,gD,gE,gF,gG,gH,gI,gJ,gK,gL,gM,gN,gO,gP] M:=by kernel_rfl
theorem k24_2:P24 [1]=.seq (P24 [1,0]) (P24 [1,1]):=by kernel_rfl
theorem k24_3:P24 [1,0]=.seq (P24 [1,0,0]) (P24 [1,0,1]):=by kernel_rfl
theorem k24_4:P24 [1,0,0]=.region 1 (O24 [1,0,0]) false:=by kernel_rfl
theorem r24_1 {Y0:Option Addr} {l0 y0:Nat} {Y1:Option Addr} {l1 y1:Nat} {M:Mem} {call:CallM} {K:Array Value→Mem→R} :
 opsK Try.prog (fun _=>call) (O24 [1,0,0]) (O24 [1,0,0]).toList 0 #[.slice Y0 l0 y0,.slice Y1 l1 y1,g2,g3,g4,g5,g6,g7,g8,g9,gA,gB,gC,gD,gE,gF,gG,gH,gI,gJ,gK,gL,gM,gN,gO,gP] M K=K #[.slice Y0 l0 y0,.slice Y1 l1 y1,g2,g3,g4,g5,.slice Y0 l0 y0,.int .i64 ((l0:Int)),.slice Y1 l1 y1,.int .i64 ((l1:Int)),.bool (((l0:Int)) != ((l1:Int))),gB,gC,gD,gE,gF,gG,gH,gI,gJ,gK,gL,gM,gN,gO,gP] M:=by kernel_rfl
theorem c24_5:P24 [1,0,1]=.cond (.tmp 10) (P24 [1,0,1,0]) (P24 [1,0,1,1]):=by kernel_rfl
theorem k24_6:P24 [1,0,1,0]=.seq (P24 [1,0,1,0,0]) (P24 [1,0,1,0,1]):=by kernel_rfl
theorem k24_7:P24 [1,0,1,0,0]=.region 2 (O24 [1,0,1,0,0]) false:=by kernel_rfl
theorem r24_2 {M:Mem} {call:CallM} {K:Array Value→Mem→R} :
 opsK Try.prog (fun _=>call) (O24 [1,0,1,0,0]) (O24 [1,0,1,0,0]).toList 0 #[g0,g1,g2,g3,g4,g5,g6,g7,g8,g9,gA,gB,gC,gD,gE,gF,gG,gH,gI,gJ,gK,gL,gM,gN,gO,gP] M K=K #[g0,g1,g2,g3,.bool false,g5,g6,g7,g8,g9,gA,gB,gC,gD,gE,gF,gG,gH,gI,gJ,gK,gL,gM,gN,gO,gP] M:=by kernel_rfl
theorem k24_8:P24 [1,0,1,0,1]=.ret:=by kernel_rfl
theorem e24 {M:Mem}:finish Try.prog Try.f24 #[g0,g1,g2,g3,g4,g5,g6,g7,g8,g9,gA,gB,gC,gD,gE,gF,gG,gH,gI,gJ,gK,gL,gM,gN,gO,gP] M=some (g4,M):=by kernel_rfl
theorem k24_10:P24 [1,0,1,1]=.skip:=by kernel_rfl
theorem k24_11:P24 [1,1]=.seq (P24 [1,1,0]) (P24 [1,1,1]):=by kernel_rfl
theorem k24_12:P24 [1,1,0]=.seq (P24 [1,1,0,0]) (P24 [1,1,0,1]):=by kernel_rfl
theorem k24_13:P24 [1,1,0,0]=.region 3 (O24 [1,1,0,0]) false:=by kernel_rfl
theorem r24_3 {M:Mem} {call:CallM} {K:Array Value→Mem→R} :
 opsK Try.prog (fun _=>call) (O24 [1,1,0,0]) (O24 [1,1,0,0]).toList 0 #[g0,g1,g2,g3,g4,g5,g6,g7,g8,g9,gA,gB,gC,gD,gE,gF,gG,gH,gI,gJ,gK,gL,gM,gN,gO,gP] M K=K #[g0,g1,g2,g3,g4,.int .i64 0,g6,g7,g8,g9,gA,gB,gC,gD,gE,gF,gG,gH,gI,gJ,gK,gL,gM,gN,gO,gP] M:=by kernel_rfl
theorem k24_14:P24 [1,1,0,1]=.block 0 (P24 [1,1,0,1,0]):=by kernel_rfl
theorem k24_15:P24 [1,1,0,1,0]=.loop (P24 [1,1,0,1,0,0]):=by kernel_rfl
theorem k24_16:P24 [1,1,0,1,0,0]=.seq (P24 [1,1,0,1,0,0,0]) (P24 [1,1,0,1,0,0,1]):=by kernel_rfl
theorem k24_17:P24 [1,1,0,1,0,0,0]=.seq (P24 [1,1,0,1,0,0,0,0]) (P24 [1,1,0,1,0,0,0,1]):=by kernel_rfl
theorem k24_18:P24 [1,1,0,1,0,0,0,0]=.region 4 (O24 [1,1,0,1,0,0,0,0]) false:=by kernel_rfl
theorem r24_4 {Y0:Option Addr} {l0 y0:Nat} {x5:Int} {M:Mem} {call:CallM} {K:Array Value→Mem→R} :
 opsK Try.prog (fun _=>call) (O24 [1,1,0,1,0,0,0,0]) (O24 [1,1,0,1,0,0,0,0]).toList 0 #[.slice Y0 l0 y0,g1,g2,g3,g4,.int .i64 x5,g6,g7,g8,g9,gA,gB,gC,gD,gE,gF,gG,gH,gI,gJ,gK,gL,gM,gN,gO,gP] M K=K #[.slice Y0 l0 y0,g1,g2,g3,g4,.int .i64 x5,g6,g7,g8,g9,gA,.int .i64 x5,.slice Y0 l0 y0,.int .i64 ((l0:Int)),.bool (decide (x5<((l0:Int)))),gF,gG,gH,gI,gJ,gK,gL,gM,gN,gO,gP] M:=by kernel_rfl
theorem c24_19:P24 [1,1,0,1,0,0,0,1]=.cond (.tmp 14) (P24 [1,1,0,1,0,0,0,1,0]) (P24 [1,1,0,1,0,0,0,1,1]):=by kernel_rfl
theorem k24_20:P24 [1,1,0,1,0,0,0,1,0]=.skip:=by kernel_rfl
theorem k24_21:P24 [1,1,0,1,0,0,1]=.seq (P24 [1,1,0,1,0,0,1,0]) (P24 [1,1,0,1,0,0,1,1]):=by kernel_rfl
theorem k24_22:P24 [1,1,0,1,0,0,1,0]=.block 1 (P24 [1,1,0,1,0,0,1,0,0]):=by kernel_rfl
theorem k24_23:P24 [1,1,0,1,0,0,1,0,0]=.seq (P24 [1,1,0,1,0,0,1,0,0,0]) (P24 [1,1,0,1,0,0,1,0,0,1]):=by kernel_rfl
theorem k24_24:P24 [1,1,0,1,0,0,1,0,0,0]=.region 6 (O24 [1,1,0,1,0,0,1,0,0,0]) true∧drawOk (O24 [1,1,0,1,0,0,1,0,0,0])=true:=⟨by kernel_rfl,by kernel_rfl⟩
theorem r24_6 {Y0:Option Addr} {l0 y0:Nat} {Y1:Option Addr} {l1 y1:Nat} {x5:Int} {M:Mem} {call:CallM} {K:Array Value→Mem→R} :
    opsI Try.prog (callAt call (O24 [1,1,0,1,0,0,1,0,0,0])) (O24 [1,1,0,1,0,0,1,0,0,0]) (ordOf (O24 [1,1,0,1,0,0,1,0,0,0])) [] #[.slice Y0 l0 y0,.slice Y1 l1 y1,g2,g3,g4,.int .i64 x5,g6,g7,g8,g9,gA,gB,gC,gD,gE,gF,gG,gH,gI,gJ,gK,gL,gM,gN,gO,gP] M K=(idxA Y0 l0 1 x5).bind fun a_1=>(M.intAt .u8 a_1.block a_1.off).bind fun x_2=>(idxA Y1 l1 1 x5).bind fun a_3=>(M.intAt .u8 a_3.block a_3.off).bind fun x_4=>K #[.slice Y0 l0 y0,.slice Y1 l1 y1,g2,g3,g4,.int .i64 x5,g6,g7,g8,g9,gA,gB,gC,gD,gE,gF,gG,.slice Y0 l0 y0,.int .i64 x5,.pointer (some a_1),.int .u8 x_2,.slice Y1 l1 y1,.int .i64 x5,.pointer (some a_3),.int .u8 x_4,.bool (x_2 != x_4)] M:=by kernel_rfl
theorem c24_25:P24 [1,1,0,1,0,0,1,0,0,1]=.cond (.tmp 25) (P24 [1,1,0,1,0,0,1,0,0,1,0]) (P24 [1,1,0,1,0,0,1,0,0,1,1]):=by kernel_rfl
theorem k24_26:P24 [1,1,0,1,0,0,1,0,0,1,0]=.seq (P24 [1,1,0,1,0,0,1,0,0,1,0,0]) (P24 [1,1,0,1,0,0,1,0,0,1,0,1]):=by kernel_rfl
theorem k24_27:P24 [1,1,0,1,0,0,1,0,0,1,0,0]=.region 7 (O24 [1,1,0,1,0,0,1,0,0,1,0,0]) false:=by kernel_rfl
theorem r24_7 {M:Mem} {call:CallM} {K:Array Value→Mem→R} :
 opsK Try.prog (fun _=>call) (O24 [1,1,0,1,0,0,1,0,0,1,0,0]) (O24 [1,1,0,1,0,0,1,0,0,1,0,0]).toList 0 #[g0,g1,g2,g3,g4,g5,g6,g7,g8,g9,gA,gB,gC,gD,gE,gF,gG,gH,gI,gJ,gK,gL,gM,gN,gO,gP] M K=K #[g0,g1,g2,g3,.bool false,g5,g6,g7,g8,g9,gA,gB,gC,gD,gE,gF,gG,gH,gI,gJ,gK,gL,gM,gN,gO,gP] M:=by kernel_rfl
theorem k24_28:P24 [1,1,0,1,0,0,1,0,0,1,0,1]=.ret:=by kernel_rfl
theorem k24_29:P24 [1,1,0,1,0,0,1,0,0,1,1]=.skip:=by kernel_rfl
theorem k24_30:P24 [1,1,0,1,0,0,1,1]=.region 5 (O24 [1,1,0,1,0,0,1,1]) false:=by kernel_rfl
theorem r24_5 {x5:Int} {M:Mem} {call:CallM} {K:Array Value→Mem→R} :
 opsK Try.prog (fun _=>call) (O24 [1,1,0,1,0,0,1,1]) (O24 [1,1,0,1,0,0,1,1]).toList 0 #[g0,g1,g2,g3,g4,.int .i64 x5,g6,g7,g8,g9,gA,gB,gC,gD,gE,gF,gG,gH,gI,gJ,gK,gL,gM,gN,gO,gP] M K=K #[g0,g1,g2,g3,g4,.int .i64 (IntKind.i64.wrap (x5+1)),g6,g7,g8,g9,gA,gB,gC,gD,gE,.int .i64 x5,.int .i64 (IntKind.i64.wrap (x5+1)),gH,gI,gJ,gK,gL,gM,gN,gO,gP] M:=by kernel_rfl
theorem k24_31:P24 [1,1,0,1,0,0,0,1,1]=.exit 0:=by kernel_rfl
theorem k24_32:P24 [1,1,1]=.seq (P24 [1,1,1,0]) (P24 [1,1,1,1]):=by kernel_rfl
theorem k24_33:P24 [1,1,1,0]=.region 8 (O24 [1,1,1,0]) false:=by kernel_rfl
theorem r24_8 {M:Mem} {call:CallM} {K:Array Value→Mem→R} :
 opsK Try.prog (fun _=>call) (O24 [1,1,1,0]) (O24 [1,1,1,0]).toList 0 #[g0,g1,g2,g3,g4,g5,g6,g7,g8,g9,gA,gB,gC,gD,gE,gF,gG,gH,gI,gJ,gK,gL,gM,gN,gO,gP] M K=K #[g0,g1,g2,g3,.bool true,g5,g6,g7,g8,g9,gA,gB,gC,gD,gE,gF,gG,gH,gI,gJ,gK,gL,gM,gN,gO,gP] M:=by kernel_rfl
theorem k24_34:P24 [1,1,1,1]=.ret:=by kernel_rfl
noncomputable def S24_1:List Item:=[.code (P24 [1,1,0,1,0,0]),.inLoop (P24 [1,1,0,1,0,0]),.inBlock 0,.code (P24 [1,1,1])]
def A24_1 (Y0:Option Addr) (l0 y0:Nat) (Y1:Option Addr) (l1 y1:Nat) (x5:Int) (M:Mem) (Q:Value→Mem→Prop):Prop:=∀ (g2 g3 g4 g6 g7 g8 g9 gA gB gC gD gE gF gG gH gI gJ gK gL gM gN gO gP:Value),Rn Try.prog Try.f24 S24_1 #[.slice Y0 l0 y0,.slice Y1 l1 y1,g2,g3,g4,.int .i64 x5,g6,g7,g8,g9,gA,gB,gC,gD,gE,gF,gG,gH,gI,gJ,gK,gL,gM,gN,gO,gP] M Q
theorem w24_0 {Y0:Option Addr} {l0 y0:Nat} {Y1:Option Addr} {l1 y1:Nat} {M:Mem} {Q:Value→Mem→Prop} (H :
 ((((l0:Int))≠((l1:Int))→
 Q (.bool false) M)∧
 (((l0:Int))=((l1:Int))→
 A24_1 Y0 l0 y0 Y1 l1 y1 0 M Q))):
 Cn Try.prog 24 #[.slice Y0 l0 y0,.slice Y1 l1 y1] M Q:=by
  refine Cn.of b24 d24 t24 ?_
  refine Rn.seq k24_0 (Rn.region k24_1 (fun call K=>r24_0) (Rch.leaf (Rn.seq k24_2 (Rn.seq k24_3 (Rn.region k24_4 (fun call K=>r24_1) (Rch.leaf ?_))))))
  refine Rn.cnd (v:=((l0:Int)) != ((l1:Int))) ⟨c24_5,rfl,by kernel_rfl⟩ (fun h=>?_) (fun h=>?_)
  · replace H:=H.1 (ne_of_bneT h)
    refine Rn.seq k24_6 (Rn.region k24_7 (fun call K=>r24_2) (Rch.leaf ?_))
    exact Rn.ret k24_8 e24 H
  · replace H:=H.2 (eq_of_bneF h)
    refine Rn.skip k24_10 (Rn.seq k24_11 (Rn.seq k24_12 (Rn.region k24_13 (fun call K=>r24_3) (Rch.leaf (Rn.block k24_14 (Rn.loop k24_15 ?_))))))
    exact H ..
theorem w24_1 {Y0:Option Addr} {l0 y0:Nat} {Y1:Option Addr} {l1 y1:Nat} {x5:Int} {M:Mem} {Q:Value→Mem→Prop} (H :
 ((x5<((l0:Int))→
 ∃a1',idxA Y0 l0 1 x5=some a1'∧
 ∃x2',M.intAt .u8 a1'.block a1'.off=some x2'∧
 ∃a3',idxA Y1 l1 1 x5=some a3'∧
 ∃x4',M.intAt .u8 a3'.block a3'.off=some x4'∧
 ((x2'≠x4'→
 Q (.bool false) M)∧
 (x2'=x4'→
 A24_1 Y0 l0 y0 Y1 l1 y1 (IntKind.i64.wrap (x5+1)) M Q)))∧
 (¬(x5<((l0:Int)))→
 Q (.bool true) M))):
 A24_1 Y0 l0 y0 Y1 l1 y1 x5 M Q:=by
  iterate 23 intro _
  refine Rn.seq k24_16 (Rn.seq k24_17 (Rn.region k24_18 (fun call K=>r24_4) (Rch.leaf ?_)))
  refine Rn.cnd (v:=decide (x5<((l0:Int)))) ⟨c24_19,rfl,by kernel_rfl⟩ (fun h=>?_) (fun h=>?_)
  · replace H:=H.1 (of_decide_eq_true h)
    refine Rn.skip k24_20 (Rn.seq k24_21 (Rn.block k24_22 (Rn.seq k24_23 (Rn.regionD k24_24 (fun call K=>r24_6) (Rch.ex H fun a1' H=>Rch.ex H fun x2' H=>Rch.ex H fun a3' H=>Rch.ex H fun x4' H=>Rch.leaf ?_)))))
    refine Rn.cnd (v:=x2' != x4') ⟨c24_25,rfl,by kernel_rfl⟩ (fun h=>?_) (fun h=>?_)
    · replace H:=H.1 (ne_of_bneT h)
      refine Rn.seq k24_26 (Rn.region k24_27 (fun call K=>r24_7) (Rch.leaf ?_))
      exact Rn.ret k24_28 e24 H
    · replace H:=H.2 (eq_of_bneF h)
      refine Rn.skip k24_29 (Rn.blk (Rn.region k24_30 (fun call K=>r24_5) (Rch.leaf (Rn.lp ?_))))
      exact H ..
  · replace H:=H.2 (of_decide_eq_false h)
    refine Rn.exit k24_31 rfl (Rn.seq k24_32 (Rn.region k24_33 (fun call K=>r24_8) (Rch.leaf ?_)))
    exact Rn.ret k24_34 e24 H
noncomputable abbrev P25 (p:List Nat):Code:=subC (codeOf Try.f25) p
noncomputable abbrev O25 (p:List Nat):Array Oper:=opsOf (subC (codeOf Try.f25) p)
theorem b25:Try.prog.funcs[25]?=some Try.f25∧(Orc.tab Try.prog).lookup 25=none:=⟨by kernel_rfl,by kernel_rfl⟩
theorem d25:Try.f25.body=some (P25 []):=by kernel_rfl
theorem t25 {Y0:Option Addr} {l0 y0:Nat} {Y1:Option Addr} {l1 y1:Nat}:#[.slice Y0 l0 y0,.slice Y1 l1 y1] ++ Array.replicate (Try.f25.ntmps-(#[.slice Y0 l0 y0,.slice Y1 l1 y1]:Array Value).size) undef=#[.slice Y0 l0 y0,.slice Y1 l1 y1,undef,undef,undef,undef,undef,undef,undef,undef,undef,undef,undef,undef,undef,undef,undef,undef,undef,undef,undef,undef,undef,undef,undef,undef,undef]:=by kernel_rfl
theorem k25_0:P25 []=.seq (P25 [0]) (P25 [1]):=by kernel_rfl
theorem k25_1:P25 [0]=.region 0 (O25 [0]) false:=by kernel_rfl
theorem r25_0 {M:Mem} {call:CallM} {K:Array Value→Mem→R} :
 opsK Try.prog (fun _=>call) (O25 [0]) (O25 [0]).toList 0 #[g0,g1,g2,g3,g4,g5,g6,g7,g8,g9,gA,gB,gC,gD,gE,gF,gG,gH,gI,gJ,gK,gL,gM,gN,gO,gP,gQ] M K=K #[g0,g1,g2,g3,.bool false,g5,g6,g7,g8,g9,gA,gB,gC,gD,gE,gF,gG,gH,gI,gJ,gK,gL,gM,gN,gO,gP,gQ] M:=by kernel_rfl
theorem k25_2:P25 [1]=.seq (P25 [1,0]) (P25 [1,1]):=by kernel_rfl
theorem k25_3:P25 [1,0]=.seq (P25 [1,0,0]) (P25 [1,0,1]):=by kernel_rfl
theorem k25_4:P25 [1,0,0]=.region 1 (O25 [1,0,0]) false:=by kernel_rfl
theorem r25_1 {Y0:Option Addr} {l0 y0:Nat} {Y1:Option Addr} {l1 y1:Nat} {M:Mem} {call:CallM} {K:Array Value→Mem→R} :
 opsK Try.prog (fun _=>call) (O25 [1,0,0]) (O25 [1,0,0]).toList 0 #[.slice Y0 l0 y0,.slice Y1 l1 y1,g2,g3,g4,g5,g6,g7,g8,g9,gA,gB,gC,gD,gE,gF,gG,gH,gI,gJ,gK,gL,gM,gN,gO,gP,gQ] M K=K #[.slice Y0 l0 y0,.slice Y1 l1 y1,g2,g3,g4,g5,.slice Y0 l0 y0,.int .i64 ((l0:Int)),.slice Y1 l1 y1,.int .i64 ((l1:Int)),.bool (((l0:Int)) != ((l1:Int))),gB,gC,gD,gE,gF,gG,gH,gI,gJ,gK,gL,gM,gN,gO,gP,gQ] M:=by kernel_rfl
theorem c25_5:P25 [1,0,1]=.cond (.tmp 10) (P25 [1,0,1,0]) (P25 [1,0,1,1]):=by kernel_rfl
theorem k25_6:P25 [1,0,1,0]=.seq (P25 [1,0,1,0,0]) (P25 [1,0,1,0,1]):=by kernel_rfl
theorem k25_7:P25 [1,0,1,0,0]=.region 2 (O25 [1,0,1,0,0]) false:=by kernel_rfl
theorem r25_2 {M:Mem} {call:CallM} {K:Array Value→Mem→R} :
 opsK Try.prog (fun _=>call) (O25 [1,0,1,0,0]) (O25 [1,0,1,0,0]).toList 0 #[g0,g1,g2,g3,g4,g5,g6,g7,g8,g9,gA,gB,gC,gD,gE,gF,gG,gH,gI,gJ,gK,gL,gM,gN,gO,gP,gQ] M K=K #[g0,g1,g2,g3,.bool false,g5,g6,g7,g8,g9,gA,gB,gC,gD,gE,gF,gG,gH,gI,gJ,gK,gL,gM,gN,gO,gP,gQ] M:=by kernel_rfl
theorem k25_8:P25 [1,0,1,0,1]=.ret:=by kernel_rfl
theorem e25 {M:Mem}:finish Try.prog Try.f25 #[g0,g1,g2,g3,g4,g5,g6,g7,g8,g9,gA,gB,gC,gD,gE,gF,gG,gH,gI,gJ,gK,gL,gM,gN,gO,gP,gQ] M=some (g4,M):=by kernel_rfl
theorem k25_10:P25 [1,0,1,1]=.skip:=by kernel_rfl
theorem k25_11:P25 [1,1]=.seq (P25 [1,1,0]) (P25 [1,1,1]):=by kernel_rfl
theorem k25_12:P25 [1,1,0]=.seq (P25 [1,1,0,0]) (P25 [1,1,0,1]):=by kernel_rfl
theorem k25_13:P25 [1,1,0,0]=.region 3 (O25 [1,1,0,0]) false:=by kernel_rfl
theorem r25_3 {M:Mem} {call:CallM} {K:Array Value→Mem→R} :
 opsK Try.prog (fun _=>call) (O25 [1,1,0,0]) (O25 [1,1,0,0]).toList 0 #[g0,g1,g2,g3,g4,g5,g6,g7,g8,g9,gA,gB,gC,gD,gE,gF,gG,gH,gI,gJ,gK,gL,gM,gN,gO,gP,gQ] M K=K #[g0,g1,g2,g3,g4,.int .i64 0,g6,g7,g8,g9,gA,gB,gC,gD,gE,gF,gG,gH,gI,gJ,gK,gL,gM,gN,gO,gP,gQ] M:=by kernel_rfl
theorem k25_14:P25 [1,1,0,1]=.block 0 (P25 [1,1,0,1,0]):=by kernel_rfl
theorem k25_15:P25 [1,1,0,1,0]=.loop (P25 [1,1,0,1,0,0]):=by kernel_rfl
theorem k25_16:P25 [1,1,0,1,0,0]=.seq (P25 [1,1,0,1,0,0,0]) (P25 [1,1,0,1,0,0,1]):=by kernel_rfl
theorem k25_17:P25 [1,1,0,1,0,0,0]=.seq (P25 [1,1,0,1,0,0,0,0]) (P25 [1,1,0,1,0,0,0,1]):=by kernel_rfl
theorem k25_18:P25 [1,1,0,1,0,0,0,0]=.region 4 (O25 [1,1,0,1,0,0,0,0]) false:=by kernel_rfl
theorem r25_4 {Y0:Option Addr} {l0 y0:Nat} {x5:Int} {M:Mem} {call:CallM} {K:Array Value→Mem→R} :
 opsK Try.prog (fun _=>call) (O25 [1,1,0,1,0,0,0,0]) (O25 [1,1,0,1,0,0,0,0]).toList 0 #[.slice Y0 l0 y0,g1,g2,g3,g4,.int .i64 x5,g6,g7,g8,g9,gA,gB,gC,gD,gE,gF,gG,gH,gI,gJ,gK,gL,gM,gN,gO,gP,gQ] M K=K #[.slice Y0 l0 y0,g1,g2,g3,g4,.int .i64 x5,g6,g7,g8,g9,gA,.int .i64 x5,.slice Y0 l0 y0,.int .i64 ((l0:Int)),.bool (decide (x5<((l0:Int)))),gF,gG,gH,gI,gJ,gK,gL,gM,gN,gO,gP,gQ] M:=by kernel_rfl
theorem c25_19:P25 [1,1,0,1,0,0,0,1]=.cond (.tmp 14) (P25 [1,1,0,1,0,0,0,1,0]) (P25 [1,1,0,1,0,0,0,1,1]):=by kernel_rfl
theorem k25_20:P25 [1,1,0,1,0,0,0,1,0]=.skip:=by kernel_rfl
theorem k25_21:P25 [1,1,0,1,0,0,1]=.seq (P25 [1,1,0,1,0,0,1,0]) (P25 [1,1,0,1,0,0,1,1]):=by kernel_rfl
theorem k25_22:P25 [1,1,0,1,0,0,1,0]=.block 1 (P25 [1,1,0,1,0,0,1,0,0]):=by kernel_rfl
theorem k25_23:P25 [1,1,0,1,0,0,1,0,0]=.seq (P25 [1,1,0,1,0,0,1,0,0,0]) (P25 [1,1,0,1,0,0,1,0,0,1]):=by kernel_rfl
theorem k25_24:P25 [1,1,0,1,0,0,1,0,0,0]=.region 6 (O25 [1,1,0,1,0,0,1,0,0,0]) true∧drawOk (O25 [1,1,0,1,0,0,1,0,0,0])=true:=⟨by kernel_rfl,by kernel_rfl⟩
theorem r25_6 {Y0:Option Addr} {l0 y0:Nat} {Y1:Option Addr} {l1 y1:Nat} {x5:Int} {M:Mem} {call:CallM} {K:Array Value→Mem→R} :
    opsI Try.prog (callAt call (O25 [1,1,0,1,0,0,1,0,0,0])) (O25 [1,1,0,1,0,0,1,0,0,0]) (ordOf (O25 [1,1,0,1,0,0,1,0,0,0])) [] #[.slice Y0 l0 y0,.slice Y1 l1 y1,g2,g3,g4,.int .i64 x5,g6,g7,g8,g9,gA,gB,gC,gD,gE,gF,gG,gH,gI,gJ,gK,gL,gM,gN,gO,gP,gQ] M K=(idxA Y0 l0 1 x5).bind fun a_1=>(M.slAt a_1.block a_1.off).bind fun s_2=>(idxA Y1 l1 1 x5).bind fun a_3=>(M.slAt a_3.block a_3.off).bind fun s_4=>(call 24 #[.slice s_2.1 (s_2.2.1) (s_2.2.2),.slice s_4.1 (s_4.2.1) (s_4.2.2)] M).bind fun r_5=>(asB r_5.1).bind fun b_6=>K #[.slice Y0 l0 y0,.slice Y1 l1 y1,g2,g3,g4,.int .i64 x5,g6,g7,g8,g9,gA,gB,gC,gD,gE,gF,gG,.slice Y0 l0 y0,.int .i64 x5,.pointer (some a_1),.slice s_2.1 (s_2.2.1) (s_2.2.2),.slice Y1 l1 y1,.int .i64 x5,.pointer (some a_3),.slice s_4.1 (s_4.2.1) (s_4.2.2),.bool b_6,.bool (!b_6)] r_5.2:=by kernel_rfl
theorem c25_25:P25 [1,1,0,1,0,0,1,0,0,1]=.cond (.tmp 26) (P25 [1,1,0,1,0,0,1,0,0,1,0]) (P25 [1,1,0,1,0,0,1,0,0,1,1]):=by kernel_rfl
theorem k25_26:P25 [1,1,0,1,0,0,1,0,0,1,0]=.seq (P25 [1,1,0,1,0,0,1,0,0,1,0,0]) (P25 [1,1,0,1,0,0,1,0,0,1,0,1]):=by kernel_rfl
theorem k25_27:P25 [1,1,0,1,0,0,1,0,0,1,0,0]=.region 7 (O25 [1,1,0,1,0,0,1,0,0,1,0,0]) false:=by kernel_rfl
theorem r25_7 {M:Mem} {call:CallM} {K:Array Value→Mem→R} :
 opsK Try.prog (fun _=>call) (O25 [1,1,0,1,0,0,1,0,0,1,0,0]) (O25 [1,1,0,1,0,0,1,0,0,1,0,0]).toList 0 #[g0,g1,g2,g3,g4,g5,g6,g7,g8,g9,gA,gB,gC,gD,gE,gF,gG,gH,gI,gJ,gK,gL,gM,gN,gO,gP,gQ] M K=K #[g0,g1,g2,g3,.bool false,g5,g6,g7,g8,g9,gA,gB,gC,gD,gE,gF,gG,gH,gI,gJ,gK,gL,gM,gN,gO,gP,gQ] M:=by kernel_rfl
theorem k25_28:P25 [1,1,0,1,0,0,1,0,0,1,0,1]=.ret:=by kernel_rfl
theorem k25_29:P25 [1,1,0,1,0,0,1,0,0,1,1]=.skip:=by kernel_rfl
theorem k25_30:P25 [1,1,0,1,0,0,1,1]=.region 5 (O25 [1,1,0,1,0,0,1,1]) false:=by kernel_rfl
theorem r25_5 {x5:Int} {M:Mem} {call:CallM} {K:Array Value→Mem→R} :
 opsK Try.prog (fun _=>call) (O25 [1,1,0,1,0,0,1,1]) (O25 [1,1,0,1,0,0,1,1]).toList 0 #[g0,g1,g2,g3,g4,.int .i64 x5,g6,g7,g8,g9,gA,gB,gC,gD,gE,gF,gG,gH,gI,gJ,gK,gL,gM,gN,gO,gP,gQ] M K=K #[g0,g1,g2,g3,g4,.int .i64 (IntKind.i64.wrap (x5+1)),g6,g7,g8,g9,gA,gB,gC,gD,gE,.int .i64 x5,.int .i64 (IntKind.i64.wrap (x5+1)),gH,gI,gJ,gK,gL,gM,gN,gO,gP,gQ] M:=by kernel_rfl
theorem k25_31:P25 [1,1,0,1,0,0,0,1,1]=.exit 0:=by kernel_rfl
theorem k25_32:P25 [1,1,1]=.seq (P25 [1,1,1,0]) (P25 [1,1,1,1]):=by kernel_rfl
theorem k25_33:P25 [1,1,1,0]=.region 8 (O25 [1,1,1,0]) false:=by kernel_rfl
theorem r25_8 {M:Mem} {call:CallM} {K:Array Value→Mem→R} :
 opsK Try.prog (fun _=>call) (O25 [1,1,1,0]) (O25 [1,1,1,0]).toList 0 #[g0,g1,g2,g3,g4,g5,g6,g7,g8,g9,gA,gB,gC,gD,gE,gF,gG,gH,gI,gJ,gK,gL,gM,gN,gO,gP,gQ] M K=K #[g0,g1,g2,g3,.bool true,g5,g6,g7,g8,g9,gA,gB,gC,gD,gE,gF,gG,gH,gI,gJ,gK,gL,gM,gN,gO,gP,gQ] M:=by kernel_rfl
theorem k25_34:P25 [1,1,1,1]=.ret:=by kernel_rfl
noncomputable def S25_1:List Item:=[.code (P25 [1,1,0,1,0,0]),.inLoop (P25 [1,1,0,1,0,0]),.inBlock 0,.code (P25 [1,1,1])]
def A25_1 (Y0:Option Addr) (l0 y0:Nat) (Y1:Option Addr) (l1 y1:Nat) (x5:Int) (M:Mem) (Q:Value→Mem→Prop):Prop:=∀ (g2 g3 g4 g6 g7 g8 g9 gA gB gC gD gE gF gG gH gI gJ gK gL gM gN gO gP gQ:Value),Rn Try.prog Try.f25 S25_1 #[.slice Y0 l0 y0,.slice Y1 l1 y1,g2,g3,g4,.int .i64 x5,g6,g7,g8,g9,gA,gB,gC,gD,gE,gF,gG,gH,gI,gJ,gK,gL,gM,gN,gO,gP,gQ] M Q
theorem w25_0 {Y0:Option Addr} {l0 y0:Nat} {Y1:Option Addr} {l1 y1:Nat} {M:Mem} {Q:Value→Mem→Prop} (H :
 ((((l0:Int))≠((l1:Int))→
 Q (.bool false) M)∧
 (((l0:Int))=((l1:Int))→
 A25_1 Y0 l0 y0 Y1 l1 y1 0 M Q))):
 Cn Try.prog 25 #[.slice Y0 l0 y0,.slice Y1 l1 y1] M Q:=by
  refine Cn.of b25 d25 t25 ?_
  refine Rn.seq k25_0 (Rn.region k25_1 (fun call K=>r25_0) (Rch.leaf (Rn.seq k25_2 (Rn.seq k25_3 (Rn.region k25_4 (fun call K=>r25_1) (Rch.leaf ?_))))))
  refine Rn.cnd (v:=((l0:Int)) != ((l1:Int))) ⟨c25_5,rfl,by kernel_rfl⟩ (fun h=>?_) (fun h=>?_)
  · replace H:=H.1 (ne_of_bneT h)
    refine Rn.seq k25_6 (Rn.region k25_7 (fun call K=>r25_2) (Rch.leaf ?_))
    exact Rn.ret k25_8 e25 H
  · replace H:=H.2 (eq_of_bneF h)
    refine Rn.skip k25_10 (Rn.seq k25_11 (Rn.seq k25_12 (Rn.region k25_13 (fun call K=>r25_3) (Rch.leaf (Rn.block k25_14 (Rn.loop k25_15 ?_))))))
    exact H ..
theorem w25_1 {Y0:Option Addr} {l0 y0:Nat} {Y1:Option Addr} {l1 y1:Nat} {x5:Int} {M:Mem} {Q:Value→Mem→Prop} (H :
 ((x5<((l0:Int))→
 ∃a1',idxA Y0 l0 1 x5=some a1'∧
 ∃s2',M.slAt a1'.block a1'.off=some s2'∧
 ∃a3',idxA Y1 l1 1 x5=some a3'∧
 ∃s4',M.slAt a3'.block a3'.off=some s4'∧
 Cn Try.prog 24 #[.slice s2'.1 (s2'.2.1) (s2'.2.2),.slice s4'.1 (s4'.2.1) (s4'.2.2)] M fun v5' N5'=>
 ∃b6',asB v5'=some b6'∧
 (((!b6')=true→
 Q (.bool false) N5')∧
 ((!b6')=false→
 A25_1 Y0 l0 y0 Y1 l1 y1 (IntKind.i64.wrap (x5+1)) N5' Q)))∧
 (¬(x5<((l0:Int)))→
 Q (.bool true) M))):
 A25_1 Y0 l0 y0 Y1 l1 y1 x5 M Q:=by
  iterate 24 intro _
  refine Rn.seq k25_16 (Rn.seq k25_17 (Rn.region k25_18 (fun call K=>r25_4) (Rch.leaf ?_)))
  refine Rn.cnd (v:=decide (x5<((l0:Int)))) ⟨c25_19,rfl,by kernel_rfl⟩ (fun h=>?_) (fun h=>?_)
  · replace H:=H.1 (of_decide_eq_true h)
    refine Rn.skip k25_20 (Rn.seq k25_21 (Rn.block k25_22 (Rn.seq k25_23 (Rn.regionD k25_24 (fun call K=>r25_6) (Rch.ex H fun a1' H=>Rch.ex H fun s2' H=>Rch.ex H fun a3' H=>Rch.ex H fun s4' H=>Rch.call H fun v5' N5' H=>Rch.ex H fun b6' H=>Rch.leaf ?_)))))
    refine Rn.cnd (v:=!b6') ⟨c25_25,rfl,by kernel_rfl⟩ (fun h=>?_) (fun h=>?_)
    · replace H:=H.1 (h)
      refine Rn.seq k25_26 (Rn.region k25_27 (fun call K=>r25_7) (Rch.leaf ?_))
      exact Rn.ret k25_28 e25 H
    · replace H:=H.2 (h)
      refine Rn.skip k25_29 (Rn.blk (Rn.region k25_30 (fun call K=>r25_5) (Rch.leaf (Rn.lp ?_))))
      exact H ..
  · replace H:=H.2 (of_decide_eq_false h)
    refine Rn.exit k25_31 rfl (Rn.seq k25_32 (Rn.region k25_33 (fun call K=>r25_8) (Rch.leaf ?_)))
    exact Rn.ret k25_34 e25 H
noncomputable abbrev P22 (p:List Nat):Code:=subC (codeOf Try.f22) p
noncomputable abbrev O22 (p:List Nat):Array Oper:=opsOf (subC (codeOf Try.f22) p)
theorem b22:Try.prog.funcs[22]?=some Try.f22∧(Orc.tab Try.prog).lookup 22=none:=⟨by kernel_rfl,by kernel_rfl⟩
theorem d22:Try.f22.body=some (P22 []):=by kernel_rfl
theorem t22 {Y0:Option Addr} {l0 y0:Nat}:#[.slice Y0 l0 y0] ++ Array.replicate (Try.f22.ntmps-(#[.slice Y0 l0 y0]:Array Value).size) undef=#[.slice Y0 l0 y0,undef,undef,undef,undef,undef,undef,undef,undef,undef,undef,undef,undef,undef,undef,undef,undef,undef,undef,undef,undef,undef,undef,undef,undef,undef,undef,undef,undef,undef,undef,undef,undef,undef,undef]:=by kernel_rfl
theorem k22_0:P22 []=.seq (P22 [0]) (P22 [1]):=by kernel_rfl
theorem k22_1:P22 [0]=.region 0 (O22 [0]) false:=by kernel_rfl
theorem r22_0 {M:Mem} {call:CallM} {K:Array Value→Mem→R} :
 opsK Try.prog (fun _=>call) (O22 [0]) (O22 [0]).toList 0 #[g0,g1,g2,g3,g4,g5,g6,g7,g8,g9,gA,gB,gC,gD,gE,gF,gG,gH,gI,gJ,gK,gL,gM,gN,gO,gP,gQ,gR,gS,gT,gU,gV,gW,gX,gY] M K=K #[g0,g1,.slice none 0 0,.int .i64 0,g4,g5,g6,g7,g8,g9,gA,gB,gC,gD,gE,gF,gG,gH,gI,gJ,gK,gL,gM,gN,gO,gP,gQ,gR,gS,gT,gU,gV,gW,gX,gY] M:=by kernel_rfl
theorem k22_2:P22 [1]=.seq (P22 [1,0]) (P22 [1,1]):=by kernel_rfl
theorem k22_3:P22 [1,0]=.seq (P22 [1,0,0]) (P22 [1,0,1]):=by kernel_rfl
theorem k22_4:P22 [1,0,0]=.region 1 (O22 [1,0,0]) false:=by kernel_rfl
theorem r22_1 {Y0:Option Addr} {l0 y0:Nat} {M:Mem} {call:CallM} {K:Array Value→Mem→R} :
 opsK Try.prog (fun _=>call) (O22 [1,0,0]) (O22 [1,0,0]).toList 0 #[.slice Y0 l0 y0,g1,g2,g3,g4,g5,g6,g7,g8,g9,gA,gB,gC,gD,gE,gF,gG,gH,gI,gJ,gK,gL,gM,gN,gO,gP,gQ,gR,gS,gT,gU,gV,gW,gX,gY] M K=K #[.slice Y0 l0 y0,g1,g2,g3,g4,g5,g6,g7,g8,.slice Y0 l0 y0,.int .i64 ((l0:Int)),.bool (decide (((l0:Int))>16)),gC,gD,gE,gF,gG,gH,gI,gJ,gK,gL,gM,gN,gO,gP,gQ,gR,gS,gT,gU,gV,gW,gX,gY] M:=by kernel_rfl
theorem c22_5:P22 [1,0,1]=.cond (.tmp 11) (P22 [1,0,1,0]) (P22 [1,0,1,1]):=by kernel_rfl
theorem k22_6:P22 [1,0,1,0]=.seq (P22 [1,0,1,0,0]) (P22 [1,0,1,0,1]):=by kernel_rfl
theorem k22_7:P22 [1,0,1,0,0]=.region 2 (O22 [1,0,1,0,0]) false:=by kernel_rfl
theorem r22_2 {M:Mem} {call:CallM} {K:Array Value→Mem→R} :
 opsK Try.prog (fun _=>call) (O22 [1,0,1,0,0]) (O22 [1,0,1,0,0]).toList 0 #[g0,g1,g2,g3,g4,g5,g6,g7,g8,g9,gA,gB,gC,gD,gE,gF,gG,gH,gI,gJ,gK,gL,gM,gN,gO,gP,gQ,gR,gS,gT,gU,gV,gW,gX,gY] M K=K #[g0,g1,.slice none 0 0,.int .i64 7,g4,g5,g6,g7,g8,g9,gA,gB,gC,gD,gE,gF,gG,gH,gI,gJ,gK,gL,gM,gN,gO,gP,gQ,gR,gS,gT,gU,gV,gW,gX,gY] M:=by kernel_rfl
theorem k22_8:P22 [1,0,1,0,1]=.ret:=by kernel_rfl
theorem e22 {M:Mem}:finish Try.prog Try.f22 #[g0,g1,g2,g3,g4,g5,g6,g7,g8,g9,gA,gB,gC,gD,gE,gF,gG,gH,gI,gJ,gK,gL,gM,gN,gO,gP,gQ,gR,gS,gT,gU,gV,gW,gX,gY] M=some (.tuple #[g2,g3],M):=by kernel_rfl
theorem k22_10:P22 [1,0,1,1]=.skip:=by kernel_rfl
theorem k22_11:P22 [1,1]=.seq (P22 [1,1,0]) (P22 [1,1,1]):=by kernel_rfl
theorem k22_12:P22 [1,1,0]=.region 3 (O22 [1,1,0]) false:=by kernel_rfl
theorem r22_3 {M:Mem} {call:CallM} {K:Array Value→Mem→R} :
 opsK Try.prog (fun _=>call) (O22 [1,1,0]) (O22 [1,1,0]).toList 0 #[g0,g1,g2,g3,g4,g5,g6,g7,g8,g9,gA,gB,gC,gD,gE,gF,gG,gH,gI,gJ,gK,gL,gM,gN,gO,gP,gQ,gR,gS,gT,gU,gV,gW,gX,gY] M K=K #[g0,g1,g2,g3,.slice none 0 0,g5,g6,g7,g8,g9,gA,gB,gC,gD,gE,gF,gG,gH,gI,gJ,gK,gL,gM,gN,gO,gP,gQ,gR,gS,gT,gU,gV,gW,gX,gY] M:=by kernel_rfl
theorem k22_13:P22 [1,1,1]=.seq (P22 [1,1,1,0]) (P22 [1,1,1,1]):=by kernel_rfl
theorem k22_14:P22 [1,1,1,0]=.seq (P22 [1,1,1,0,0]) (P22 [1,1,1,0,1]):=by kernel_rfl
theorem k22_15:P22 [1,1,1,0,0]=.region 4 (O22 [1,1,1,0,0]) false:=by kernel_rfl
theorem r22_4 {Y0:Option Addr} {l0 y0:Nat} {M:Mem} {call:CallM} {K:Array Value→Mem→R} :
 opsK Try.prog (fun _=>call) (O22 [1,1,1,0,0]) (O22 [1,1,1,0,0]).toList 0 #[.slice Y0 l0 y0,g1,g2,g3,g4,g5,g6,g7,g8,g9,gA,gB,gC,gD,gE,gF,gG,gH,gI,gJ,gK,gL,gM,gN,gO,gP,gQ,gR,gS,gT,gU,gV,gW,gX,gY] M K=K #[.slice Y0 l0 y0,g1,g2,g3,g4,g5,g6,g7,g8,g9,gA,gB,.slice Y0 l0 y0,.int .i64 ((l0:Int)),.int .i64 0,gF,gG,gH,gI,gJ,gK,gL,gM,gN,gO,gP,gQ,gR,gS,gT,gU,gV,gW,gX,gY] M:=by kernel_rfl
theorem k22_16:P22 [1,1,1,0,1]=.block 0 (P22 [1,1,1,0,1,0]):=by kernel_rfl
theorem k22_17:P22 [1,1,1,0,1,0]=.loop (P22 [1,1,1,0,1,0,0]):=by kernel_rfl
theorem k22_18:P22 [1,1,1,0,1,0,0]=.seq (P22 [1,1,1,0,1,0,0,0]) (P22 [1,1,1,0,1,0,0,1]):=by kernel_rfl
theorem k22_19:P22 [1,1,1,0,1,0,0,0]=.region 5 (O22 [1,1,1,0,1,0,0,0]) false:=by kernel_rfl
theorem r22_5 {x13 x14:Int} {M:Mem} {call:CallM} {K:Array Value→Mem→R} :
 opsK Try.prog (fun _=>call) (O22 [1,1,1,0,1,0,0,0]) (O22 [1,1,1,0,1,0,0,0]).toList 0 #[g0,g1,g2,g3,g4,g5,g6,g7,g8,g9,gA,gB,gC,.int .i64 x13,.int .i64 x14,gF,gG,gH,gI,gJ,gK,gL,gM,gN,gO,gP,gQ,gR,gS,gT,gU,gV,gW,gX,gY] M K=K #[g0,g1,g2,g3,g4,g5,g6,g7,g8,g9,gA,gB,gC,.int .i64 x13,.int .i64 x14,.bool (decide (x14<x13)),gG,gH,gI,gJ,gK,gL,gM,gN,gO,gP,gQ,gR,gS,gT,gU,gV,gW,gX,gY] M:=by kernel_rfl
theorem k22_20:P22 [1,1,1,0,1,0,0,1]=.seq (P22 [1,1,1,0,1,0,0,1,0]) (P22 [1,1,1,0,1,0,0,1,1]):=by kernel_rfl
theorem c22_21:P22 [1,1,1,0,1,0,0,1,0]=.cond (.tmp 15) (P22 [1,1,1,0,1,0,0,1,0,0]) (P22 [1,1,1,0,1,0,0,1,0,1]):=by kernel_rfl
theorem k22_22:P22 [1,1,1,0,1,0,0,1,0,0]=.skip:=by kernel_rfl
theorem k22_23:P22 [1,1,1,0,1,0,0,1,1]=.seq (P22 [1,1,1,0,1,0,0,1,1,0]) (P22 [1,1,1,0,1,0,0,1,1,1]):=by kernel_rfl
theorem k22_24:P22 [1,1,1,0,1,0,0,1,1,0]=.block 1 (P22 [1,1,1,0,1,0,0,1,1,0,0]):=by kernel_rfl
theorem k22_25:P22 [1,1,1,0,1,0,0,1,1,0,0]=.seq (P22 [1,1,1,0,1,0,0,1,1,0,0,0]) (P22 [1,1,1,0,1,0,0,1,1,0,0,1]):=by kernel_rfl
theorem k22_26:P22 [1,1,1,0,1,0,0,1,1,0,0,0]=.region 6 (O22 [1,1,1,0,1,0,0,1,1,0,0,0]) false:=by kernel_rfl
theorem r22_6 {Y12:Option Addr} {l12 y12:Nat} {x14:Int} {M:Mem} {call:CallM} {K:Array Value→Mem→R} :
 opsK Try.prog (fun _=>call) (O22 [1,1,1,0,1,0,0,1,1,0,0,0]) (O22 [1,1,1,0,1,0,0,1,1,0,0,0]).toList 0 #[g0,g1,g2,g3,g4,g5,g6,g7,g8,g9,gA,gB,.slice Y12 l12 y12,gD,.int .i64 x14,gF,gG,gH,gI,gJ,gK,gL,gM,gN,gO,gP,gQ,gR,gS,gT,gU,gV,gW,gX,gY] M K=(idxA Y12 l12 1 x14).bind fun a_1=>(M.slAt a_1.block a_1.off).bind fun s_2=>K #[g0,g1,g2,g3,g4,g5,.slice s_2.1 (s_2.2.1) (s_2.2.2),g7,g8,g9,gA,gB,.slice Y12 l12 y12,gD,.int .i64 x14,gF,.pointer (some a_1),.slice s_2.1 (s_2.2.1) (s_2.2.2),gI,gJ,gK,gL,gM,gN,gO,gP,gQ,gR,gS,gT,gU,gV,gW,gX,gY] M:=by kernel_rfl
theorem k22_27:P22 [1,1,1,0,1,0,0,1,1,0,0,1]=.seq (P22 [1,1,1,0,1,0,0,1,1,0,0,1,0]) (P22 [1,1,1,0,1,0,0,1,1,0,0,1,1]):=by kernel_rfl
theorem k22_28:P22 [1,1,1,0,1,0,0,1,1,0,0,1,0]=.region 7 (O22 [1,1,1,0,1,0,0,1,1,0,0,1,0]) false:=by kernel_rfl
theorem r22_7 {M:Mem} {call:CallM} {K:Array Value→Mem→R} :
 opsK Try.prog (fun _=>call) (O22 [1,1,1,0,1,0,0,1,1,0,0,1,0]) (O22 [1,1,1,0,1,0,0,1,1,0,0,1,0]).toList 0 #[g0,g1,g2,g3,g4,g5,g6,g7,g8,g9,gA,gB,gC,gD,gE,gF,gG,gH,gI,gJ,gK,gL,gM,gN,gO,gP,gQ,gR,gS,gT,gU,gV,gW,gX,gY] M K=(call 36 #[] M).bind fun r_1=>(asP r_1.1).bind fun p_2=>K #[g0,g1,g2,g3,g4,g5,g6,.pointer p_2,g8,g9,gA,gB,gC,gD,gE,gF,gG,gH,.pointer p_2,gJ,gK,gL,gM,gN,gO,gP,gQ,gR,gS,gT,gU,gV,gW,gX,gY] r_1.2:=by kernel_rfl
theorem k22_29:P22 [1,1,1,0,1,0,0,1,1,0,0,1,1]=.seq (P22 [1,1,1,0,1,0,0,1,1,0,0,1,1,0]) (P22 [1,1,1,0,1,0,0,1,1,0,0,1,1,1]):=by kernel_rfl
theorem k22_30:P22 [1,1,1,0,1,0,0,1,1,0,0,1,1,0]=.seq (P22 [1,1,1,0,1,0,0,1,1,0,0,1,1,0,0]) (P22 [1,1,1,0,1,0,0,1,1,0,0,1,1,0,1]):=by kernel_rfl
theorem k22_31:P22 [1,1,1,0,1,0,0,1,1,0,0,1,1,0,0]=.region 8 (O22 [1,1,1,0,1,0,0,1,1,0,0,1,1,0,0]) false:=by kernel_rfl
theorem r22_8 {Y6:Option Addr} {l6 y6:Nat} {x7:Option Addr} {M:Mem} {call:CallM} {K:Array Value→Mem→R} :
 opsK Try.prog (fun _=>call) (O22 [1,1,1,0,1,0,0,1,1,0,0,1,1,0,0]) (O22 [1,1,1,0,1,0,0,1,1,0,0,1,1,0,0]).toList 0 #[g0,g1,g2,g3,g4,g5,.slice Y6 l6 y6,.pointer x7,g8,g9,gA,gB,gC,gD,gE,gF,gG,gH,gI,gJ,gK,gL,gM,gN,gO,gP,gQ,gR,gS,gT,gU,gV,gW,gX,gY] M K=(call 37 #[.pointer x7,.int .u32 (IntKind.u32.wrap ((l6:Int)))] M).bind fun r_1=>(asI .i64 r_1.1).bind fun x_2=>K #[g0,g1,g2,g3,g4,g5,.slice Y6 l6 y6,.pointer x7,.int .i64 x_2,g9,gA,gB,gC,gD,gE,gF,gG,gH,gI,.pointer x7,.slice Y6 l6 y6,.int .i64 ((l6:Int)),.int .u32 (IntKind.u32.wrap ((l6:Int))),.int .i64 x_2,gO,gP,gQ,gR,gS,gT,gU,gV,gW,gX,gY] r_1.2:=by kernel_rfl
theorem k22_32:P22 [1,1,1,0,1,0,0,1,1,0,0,1,1,0,1]=.seq (P22 [1,1,1,0,1,0,0,1,1,0,0,1,1,0,1,0]) (P22 [1,1,1,0,1,0,0,1,1,0,0,1,1,0,1,1]):=by kernel_rfl
theorem k22_33:P22 [1,1,1,0,1,0,0,1,1,0,0,1,1,0,1,0]=.region 9 (O22 [1,1,1,0,1,0,0,1,1,0,0,1,1,0,1,0]) false:=by kernel_rfl
theorem r22_9 {x8:Int} {M:Mem} {call:CallM} {K:Array Value→Mem→R} :
 opsK Try.prog (fun _=>call) (O22 [1,1,1,0,1,0,0,1,1,0,0,1,1,0,1,0]) (O22 [1,1,1,0,1,0,0,1,1,0,0,1,1,0,1,0]).toList 0 #[g0,g1,g2,g3,g4,g5,g6,g7,.int .i64 x8,g9,gA,gB,gC,gD,gE,gF,gG,gH,gI,gJ,gK,gL,gM,gN,gO,gP,gQ,gR,gS,gT,gU,gV,gW,gX,gY] M K=K #[g0,g1,g2,g3,g4,g5,g6,g7,.int .i64 x8,g9,gA,gB,gC,gD,gE,gF,gG,gH,gI,gJ,gK,gL,gM,gN,.int .i64 x8,.bool (x8 != 0),gQ,gR,gS,gT,gU,gV,gW,gX,gY] M:=by kernel_rfl
theorem c22_34:P22 [1,1,1,0,1,0,0,1,1,0,0,1,1,0,1,1]=.cond (.tmp 25) (P22 [1,1,1,0,1,0,0,1,1,0,0,1,1,0,1,1,0]) (P22 [1,1,1,0,1,0,0,1,1,0,0,1,1,0,1,1,1]):=by kernel_rfl
theorem k22_35:P22 [1,1,1,0,1,0,0,1,1,0,0,1,1,0,1,1,0]=.seq (P22 [1,1,1,0,1,0,0,1,1,0,0,1,1,0,1,1,0,0]) (P22 [1,1,1,0,1,0,0,1,1,0,0,1,1,0,1,1,0,1]):=by kernel_rfl
theorem k22_36:P22 [1,1,1,0,1,0,0,1,1,0,0,1,1,0,1,1,0,0]=.region 10 (O22 [1,1,1,0,1,0,0,1,1,0,0,1,1,0,1,1,0,0]) false:=by kernel_rfl
theorem r22_10 {x8:Int} {M:Mem} {call:CallM} {K:Array Value→Mem→R} :
 opsK Try.prog (fun _=>call) (O22 [1,1,1,0,1,0,0,1,1,0,0,1,1,0,1,1,0,0]) (O22 [1,1,1,0,1,0,0,1,1,0,0,1,1,0,1,1,0,0]).toList 0 #[g0,g1,g2,g3,g4,g5,g6,g7,.int .i64 x8,g9,gA,gB,gC,gD,gE,gF,gG,gH,gI,gJ,gK,gL,gM,gN,gO,gP,gQ,gR,gS,gT,gU,gV,gW,gX,gY] M K=K #[g0,g1,.slice none 0 0,.int .i64 x8,g4,g5,g6,g7,.int .i64 x8,g9,gA,gB,gC,gD,gE,gF,gG,gH,gI,gJ,gK,gL,gM,gN,gO,gP,.int .i64 x8,gR,gS,gT,gU,gV,gW,gX,gY] M:=by kernel_rfl
theorem k22_37:P22 [1,1,1,0,1,0,0,1,1,0,0,1,1,0,1,1,0,1]=.ret:=by kernel_rfl
theorem k22_38:P22 [1,1,1,0,1,0,0,1,1,0,0,1,1,0,1,1,1]=.skip:=by kernel_rfl
theorem k22_39:P22 [1,1,1,0,1,0,0,1,1,0,0,1,1,1]=.region 11 (O22 [1,1,1,0,1,0,0,1,1,0,0,1,1,1]) false:=by kernel_rfl
theorem r22_11 {Y4:Option Addr} {l4 y4:Nat} {Y6:Option Addr} {l6 y6:Nat} {x7:Option Addr} {M:Mem} {call:CallM} {K:Array Value→Mem→R} :
 opsK Try.prog (fun _=>call) (O22 [1,1,1,0,1,0,0,1,1,0,0,1,1,1]) (O22 [1,1,1,0,1,0,0,1,1,0,0,1,1,1]).toList 0 #[g0,g1,g2,g3,.slice Y4 l4 y4,g5,.slice Y6 l6 y6,.pointer x7,g8,g9,gA,gB,gC,gD,gE,gF,gG,gH,gI,gJ,gK,gL,gM,gN,gO,gP,gQ,gR,gS,gT,gU,gV,gW,gX,gY] M K=(call 38 #[.pointer x7] M).bind fun r_1=>(asS r_1.1).bind fun s_2=>(appendP Try.prog #[46,46] (.slice Y4 l4 y4) (.slice s_2.1 (s_2.2.1) (s_2.2.2)) r_1.2).bind fun r_3=>(asS r_3.1).bind fun s_4=>(appendP Try.prog #[46,46] (.slice s_4.1 (s_4.2.1) (s_4.2.2)) (.slice Y6 l6 y6) r_3.2).bind fun r_5=>(asS r_5.1).bind fun s_6=>K #[g0,g1,g2,g3,.slice s_6.1 (s_6.2.1) (s_6.2.2),g5,.slice Y6 l6 y6,.pointer x7,g8,g9,gA,gB,gC,gD,gE,gF,gG,gH,gI,gJ,gK,gL,gM,gN,gO,gP,gQ,.slice Y4 l4 y4,.pointer x7,.slice s_2.1 (s_2.2.1) (s_2.2.2),.slice s_4.1 (s_4.2.1) (s_4.2.2),.slice Y6 l6 y6,.slice s_6.1 (s_6.2.1) (s_6.2.2),gX,gY] r_5.2:=by kernel_rfl
theorem k22_40:P22 [1,1,1,0,1,0,0,1,1,1]=.region 12 (O22 [1,1,1,0,1,0,0,1,1,1]) false:=by kernel_rfl
theorem r22_12 {x14:Int} {M:Mem} {call:CallM} {K:Array Value→Mem→R} :
 opsK Try.prog (fun _=>call) (O22 [1,1,1,0,1,0,0,1,1,1]) (O22 [1,1,1,0,1,0,0,1,1,1]).toList 0 #[g0,g1,g2,g3,g4,g5,g6,g7,g8,g9,gA,gB,gC,gD,.int .i64 x14,gF,gG,gH,gI,gJ,gK,gL,gM,gN,gO,gP,gQ,gR,gS,gT,gU,gV,gW,gX,gY] M K=K #[g0,g1,g2,g3,g4,g5,g6,g7,g8,g9,gA,gB,gC,gD,.int .i64 (IntKind.i64.wrap (x14+1)),gF,gG,gH,gI,gJ,gK,gL,gM,gN,gO,gP,gQ,gR,gS,gT,gU,gV,gW,.int .i64 (IntKind.i64.wrap (x14+1)),gY] M:=by kernel_rfl
theorem k22_41:P22 [1,1,1,0,1,0,0,1,0,1]=.exit 0:=by kernel_rfl
theorem k22_42:P22 [1,1,1,1]=.seq (P22 [1,1,1,1,0]) (P22 [1,1,1,1,1]):=by kernel_rfl
theorem k22_43:P22 [1,1,1,1,0]=.region 13 (O22 [1,1,1,1,0]) false:=by kernel_rfl
theorem r22_13 {Y4:Option Addr} {l4 y4:Nat} {M:Mem} {call:CallM} {K:Array Value→Mem→R} :
 opsK Try.prog (fun _=>call) (O22 [1,1,1,1,0]) (O22 [1,1,1,1,0]).toList 0 #[g0,g1,g2,g3,.slice Y4 l4 y4,g5,g6,g7,g8,g9,gA,gB,gC,gD,gE,gF,gG,gH,gI,gJ,gK,gL,gM,gN,gO,gP,gQ,gR,gS,gT,gU,gV,gW,gX,gY] M K=K #[g0,g1,.slice Y4 l4 y4,.int .i64 0,.slice Y4 l4 y4,g5,g6,g7,g8,g9,gA,gB,gC,gD,gE,gF,gG,gH,gI,gJ,gK,gL,gM,gN,gO,gP,gQ,gR,gS,gT,gU,gV,gW,gX,.slice Y4 l4 y4] M:=by kernel_rfl
theorem k22_44:P22 [1,1,1,1,1]=.ret:=by kernel_rfl
noncomputable def S22_1:List Item:=[.code (P22 [1,1,1,0,1,0,0]),.inLoop (P22 [1,1,1,0,1,0,0]),.inBlock 0,.code (P22 [1,1,1,1])]
def A22_1 (Y4:Option Addr) (l4 y4:Nat) (Y12:Option Addr) (l12 y12:Nat) (x13 x14:Int) (M:Mem) (Q:Value→Mem→Prop):Prop:=∀ (g0 g1 g2 g3 g5 g6 g7 g8 g9 gA gB gF gG gH gI gJ gK gL gM gN gO gP gQ gR gS gT gU gV gW gX gY:Value),Rn Try.prog Try.f22 S22_1 #[g0,g1,g2,g3,.slice Y4 l4 y4,g5,g6,g7,g8,g9,gA,gB,.slice Y12 l12 y12,.int .i64 x13,.int .i64 x14,gF,gG,gH,gI,gJ,gK,gL,gM,gN,gO,gP,gQ,gR,gS,gT,gU,gV,gW,gX,gY] M Q
theorem w22_0 {Y0:Option Addr} {l0 y0:Nat} {M:Mem} {Q:Value→Mem→Prop} (H :
 ((((l0:Int))>16→
 Q (.tuple #[.slice none 0 0,.int .i64 7]) M)∧
 (¬(((l0:Int))>16)→
 A22_1 none 0 0 Y0 l0 y0 (l0:Int) 0 M Q))):
 Cn Try.prog 22 #[.slice Y0 l0 y0] M Q:=by
  refine Cn.of b22 d22 t22 ?_
  refine Rn.seq k22_0 (Rn.region k22_1 (fun call K=>r22_0) (Rch.leaf (Rn.seq k22_2 (Rn.seq k22_3 (Rn.region k22_4 (fun call K=>r22_1) (Rch.leaf ?_))))))
  refine Rn.cnd (v:=decide (((l0:Int))>16)) ⟨c22_5,rfl,by kernel_rfl⟩ (fun h=>?_) (fun h=>?_)
  · replace H:=H.1 (of_decide_eq_true h)
    refine Rn.seq k22_6 (Rn.region k22_7 (fun call K=>r22_2) (Rch.leaf ?_))
    exact Rn.ret k22_8 e22 H
  · replace H:=H.2 (of_decide_eq_false h)
    refine Rn.skip k22_10 (Rn.seq k22_11 (Rn.region k22_12 (fun call K=>r22_3) (Rch.leaf (Rn.seq k22_13 (Rn.seq k22_14 (Rn.region k22_15 (fun call K=>r22_4) (Rch.leaf (Rn.block k22_16 (Rn.loop k22_17 ?_)))))))))
    exact H ..
theorem w22_1 {Y4:Option Addr} {l4 y4:Nat} {Y12:Option Addr} {l12 y12:Nat} {x13 x14:Int} {M:Mem} {Q:Value→Mem→Prop} (H :
 ((x14<x13→
 ∃a1',idxA Y12 l12 1 x14=some a1'∧
 ∃s2',M.slAt a1'.block a1'.off=some s2'∧
 Cn Try.prog 36 #[] M fun v3' N3'=>
 ∃p4',asP v3'=some p4'∧
 Cn Try.prog 37 #[.pointer p4',.int .u32 (IntKind.u32.wrap ((s2'.2.1:Int)))] N3' fun v5' N5'=>
 ∃x6',asI .i64 v5'=some x6'∧
 ((x6'≠0→
 Q (.tuple #[.slice none 0 0,.int .i64 (x6')]) N5')∧
 (x6'=0→
 Cn Try.prog 38 #[.pointer p4'] N5' fun v7' N7'=>
 ∃s8',asS v7'=some s8'∧
 ∃r9',appendP Try.prog #[46,46] (.slice Y4 l4 y4) (.slice s8'.1 (s8'.2.1) (s8'.2.2)) N7'=some r9'∧
 ∃s10',asS r9'.1=some s10'∧
 ∃r11',appendP Try.prog #[46,46] (.slice s10'.1 (s10'.2.1) (s10'.2.2)) (.slice s2'.1 s2'.2.1 s2'.2.2) r9'.2=some r11'∧
 ∃s12',asS r11'.1=some s12'∧
 A22_1 s12'.1 s12'.2.1 s12'.2.2 Y12 l12 y12 x13 (IntKind.i64.wrap (x14+1)) r11'.2 Q)))∧
 (¬(x14<x13)→
 Q (.tuple #[.slice Y4 l4 y4,.int .i64 0]) M))):
 A22_1 Y4 l4 y4 Y12 l12 y12 x13 x14 M Q:=by
  iterate 31 intro _
  refine Rn.seq k22_18 (Rn.region k22_19 (fun call K=>r22_5) (Rch.leaf (Rn.seq k22_20 ?_)))
  refine Rn.cnd (v:=decide (x14<x13)) ⟨c22_21,rfl,by kernel_rfl⟩ (fun h=>?_) (fun h=>?_)
  · replace H:=H.1 (of_decide_eq_true h)
    refine Rn.skip k22_22 (Rn.seq k22_23 (Rn.block k22_24 (Rn.seq k22_25 (Rn.region k22_26 (fun call K=>r22_6) (Rch.ex H fun a1' H=>Rch.ex H fun s2' H=>Rch.leaf (Rn.seq k22_27 (Rn.region k22_28 (fun call K=>r22_7) (Rch.call H fun v3' N3' H=>Rch.ex H fun p4' H=>?_))))))))
    refine Rch.leaf (Rn.seq k22_29 (Rn.seq k22_30 (Rn.region k22_31 (fun call K=>r22_8) (Rch.call H fun v5' N5' H=>Rch.ex H fun x6' H=>Rch.leaf (Rn.seq k22_32 (Rn.region k22_33 (fun call K=>r22_9) (Rch.leaf ?_)))))))
    refine Rn.cnd (v:=x6' != 0) ⟨c22_34,rfl,by kernel_rfl⟩ (fun h=>?_) (fun h=>?_)
    · replace H:=H.1 (ne_of_bneT h)
      refine Rn.seq k22_35 (Rn.region k22_36 (fun call K=>r22_10) (Rch.leaf ?_))
      exact Rn.ret k22_37 e22 H
    · replace H:=H.2 (eq_of_bneF h)
      refine Rn.skip k22_38 (Rn.region k22_39 (fun call K=>r22_11) (Rch.call H fun v7' N7' H=>Rch.ex H fun s8' H=>Rch.ex H fun r9' H=>Rch.ex H fun s10' H=>Rch.ex H fun r11' H=>Rch.ex H fun s12' H=>Rch.leaf (Rn.blk (Rn.region k22_40 (fun call K=>r22_12) (Rch.leaf ?_)))))
      refine Rn.lp ?_
      exact H ..
  · replace H:=H.2 (of_decide_eq_false h)
    refine Rn.exit k22_41 rfl (Rn.seq k22_42 (Rn.region k22_43 (fun call K=>r22_13) (Rch.leaf ?_)))
    exact Rn.ret k22_44 e22 H
noncomputable abbrev P23 (p:List Nat):Code:=subC (codeOf Try.f23) p
noncomputable abbrev O23 (p:List Nat):Array Oper:=opsOf (subC (codeOf Try.f23) p)
theorem b23:Try.prog.funcs[23]?=some Try.f23∧(Orc.tab Try.prog).lookup 23=none:=⟨by kernel_rfl,by kernel_rfl⟩
theorem d23:Try.f23.body=some (P23 []):=by kernel_rfl
theorem t23 {Y0:Option Addr} {l0 y0:Nat}:#[.slice Y0 l0 y0] ++ Array.replicate (Try.f23.ntmps-(#[.slice Y0 l0 y0]:Array Value).size) undef=#[.slice Y0 l0 y0,undef,undef,undef,undef,undef,undef,undef,undef,undef,undef,undef,undef,undef,undef,undef,undef,undef,undef,undef,undef,undef,undef,undef,undef,undef,undef,undef,undef,undef,undef,undef,undef,undef,undef,undef]:=by kernel_rfl
theorem k23_0:P23 []=.seq (P23 [0]) (P23 [1]):=by kernel_rfl
theorem k23_1:P23 [0]=.region 0 (O23 [0]) false:=by kernel_rfl
theorem r23_0 {M:Mem} {call:CallM} {K:Array Value→Mem→R} :
 opsK Try.prog (fun _=>call) (O23 [0]) (O23 [0]).toList 0 #[g0,g1,g2,g3,g4,g5,g6,g7,g8,g9,gA,gB,gC,gD,gE,gF,gG,gH,gI,gJ,gK,gL,gM,gN,gO,gP,gQ,gR,gS,gT,gU,gV,gW,gX,gY,gZ] M K=K #[g0,g1,.slice none 0 0,.int .i64 0,g4,g5,g6,g7,g8,g9,gA,gB,gC,gD,gE,gF,gG,gH,gI,gJ,gK,gL,gM,gN,gO,gP,gQ,gR,gS,gT,gU,gV,gW,gX,gY,gZ] M:=by kernel_rfl
theorem k23_2:P23 [1]=.seq (P23 [1,0]) (P23 [1,1]):=by kernel_rfl
theorem k23_3:P23 [1,0]=.seq (P23 [1,0,0]) (P23 [1,0,1]):=by kernel_rfl
theorem k23_4:P23 [1,0,0]=.region 1 (O23 [1,0,0]) false:=by kernel_rfl
theorem r23_1 {Y0:Option Addr} {l0 y0:Nat} {M:Mem} {call:CallM} {K:Array Value→Mem→R} :
 opsK Try.prog (fun _=>call) (O23 [1,0,0]) (O23 [1,0,0]).toList 0 #[.slice Y0 l0 y0,g1,g2,g3,g4,g5,g6,g7,g8,g9,gA,gB,gC,gD,gE,gF,gG,gH,gI,gJ,gK,gL,gM,gN,gO,gP,gQ,gR,gS,gT,gU,gV,gW,gX,gY,gZ] M K=K #[.slice Y0 l0 y0,g1,g2,g3,g4,g5,g6,.slice Y0 l0 y0,.int .i64 ((l0:Int)),.bool (decide (((l0:Int))>16)),gA,gB,gC,gD,gE,gF,gG,gH,gI,gJ,gK,gL,gM,gN,gO,gP,gQ,gR,gS,gT,gU,gV,gW,gX,gY,gZ] M:=by kernel_rfl
theorem c23_5:P23 [1,0,1]=.cond (.tmp 9) (P23 [1,0,1,0]) (P23 [1,0,1,1]):=by kernel_rfl
theorem k23_6:P23 [1,0,1,0]=.seq (P23 [1,0,1,0,0]) (P23 [1,0,1,0,1]):=by kernel_rfl
theorem k23_7:P23 [1,0,1,0,0]=.region 2 (O23 [1,0,1,0,0]) false:=by kernel_rfl
theorem r23_2 {M:Mem} {call:CallM} {K:Array Value→Mem→R} :
 opsK Try.prog (fun _=>call) (O23 [1,0,1,0,0]) (O23 [1,0,1,0,0]).toList 0 #[g0,g1,g2,g3,g4,g5,g6,g7,g8,g9,gA,gB,gC,gD,gE,gF,gG,gH,gI,gJ,gK,gL,gM,gN,gO,gP,gQ,gR,gS,gT,gU,gV,gW,gX,gY,gZ] M K=K #[g0,g1,.slice none 0 0,.int .i64 7,g4,g5,g6,g7,g8,g9,gA,gB,gC,gD,gE,gF,gG,gH,gI,gJ,gK,gL,gM,gN,gO,gP,gQ,gR,gS,gT,gU,gV,gW,gX,gY,gZ] M:=by kernel_rfl
theorem k23_8:P23 [1,0,1,0,1]=.ret:=by kernel_rfl
theorem e23 {M:Mem}:finish Try.prog Try.f23 #[g0,g1,g2,g3,g4,g5,g6,g7,g8,g9,gA,gB,gC,gD,gE,gF,gG,gH,gI,gJ,gK,gL,gM,gN,gO,gP,gQ,gR,gS,gT,gU,gV,gW,gX,gY,gZ] M=some (.tuple #[g2,g3],M):=by kernel_rfl
theorem k23_10:P23 [1,0,1,1]=.skip:=by kernel_rfl
theorem k23_11:P23 [1,1]=.seq (P23 [1,1,0]) (P23 [1,1,1]):=by kernel_rfl
theorem k23_12:P23 [1,1,0]=.region 3 (O23 [1,1,0]) false:=by kernel_rfl
theorem r23_3 {M:Mem} {call:CallM} {K:Array Value→Mem→R} :
 opsK Try.prog (fun _=>call) (O23 [1,1,0]) (O23 [1,1,0]).toList 0 #[g0,g1,g2,g3,g4,g5,g6,g7,g8,g9,gA,gB,gC,gD,gE,gF,gG,gH,gI,gJ,gK,gL,gM,gN,gO,gP,gQ,gR,gS,gT,gU,gV,gW,gX,gY,gZ] M K=K #[g0,g1,g2,g3,.slice none 0 0,g5,g6,g7,g8,g9,gA,gB,gC,gD,gE,gF,gG,gH,gI,gJ,gK,gL,gM,gN,gO,gP,gQ,gR,gS,gT,gU,gV,gW,gX,gY,gZ] M:=by kernel_rfl
theorem k23_13:P23 [1,1,1]=.seq (P23 [1,1,1,0]) (P23 [1,1,1,1]):=by kernel_rfl
theorem k23_14:P23 [1,1,1,0]=.seq (P23 [1,1,1,0,0]) (P23 [1,1,1,0,1]):=by kernel_rfl
theorem k23_15:P23 [1,1,1,0,0]=.region 4 (O23 [1,1,1,0,0]) false:=by kernel_rfl
theorem r23_4 {M:Mem} {call:CallM} {K:Array Value→Mem→R} :
 opsK Try.prog (fun _=>call) (O23 [1,1,1,0,0]) (O23 [1,1,1,0,0]).toList 0 #[g0,g1,g2,g3,g4,g5,g6,g7,g8,g9,gA,gB,gC,gD,gE,gF,gG,gH,gI,gJ,gK,gL,gM,gN,gO,gP,gQ,gR,gS,gT,gU,gV,gW,gX,gY,gZ] M K=K #[g0,g1,g2,g3,g4,.int .i64 0,g6,g7,g8,g9,gA,gB,gC,gD,gE,gF,gG,gH,gI,gJ,gK,gL,gM,gN,gO,gP,gQ,gR,gS,gT,gU,gV,gW,gX,gY,gZ] M:=by kernel_rfl
theorem k23_16:P23 [1,1,1,0,1]=.block 0 (P23 [1,1,1,0,1,0]):=by kernel_rfl
theorem k23_17:P23 [1,1,1,0,1,0]=.loop (P23 [1,1,1,0,1,0,0]):=by kernel_rfl
theorem k23_18:P23 [1,1,1,0,1,0,0]=.seq (P23 [1,1,1,0,1,0,0,0]) (P23 [1,1,1,0,1,0,0,1]):=by kernel_rfl
theorem k23_19:P23 [1,1,1,0,1,0,0,0]=.seq (P23 [1,1,1,0,1,0,0,0,0]) (P23 [1,1,1,0,1,0,0,0,1]):=by kernel_rfl
theorem k23_20:P23 [1,1,1,0,1,0,0,0,0]=.region 5 (O23 [1,1,1,0,1,0,0,0,0]) false:=by kernel_rfl
theorem r23_5 {Y0:Option Addr} {l0 y0:Nat} {x5:Int} {M:Mem} {call:CallM} {K:Array Value→Mem→R} :
 opsK Try.prog (fun _=>call) (O23 [1,1,1,0,1,0,0,0,0]) (O23 [1,1,1,0,1,0,0,0,0]).toList 0 #[.slice Y0 l0 y0,g1,g2,g3,g4,.int .i64 x5,g6,g7,g8,g9,gA,gB,gC,gD,gE,gF,gG,gH,gI,gJ,gK,gL,gM,gN,gO,gP,gQ,gR,gS,gT,gU,gV,gW,gX,gY,gZ] M K=K #[.slice Y0 l0 y0,g1,g2,g3,g4,.int .i64 x5,g6,g7,g8,g9,.int .i64 x5,.slice Y0 l0 y0,.int .i64 ((l0:Int)),.bool (decide (x5<((l0:Int)))),gE,gF,gG,gH,gI,gJ,gK,gL,gM,gN,gO,gP,gQ,gR,gS,gT,gU,gV,gW,gX,gY,gZ] M:=by kernel_rfl
theorem c23_21:P23 [1,1,1,0,1,0,0,0,1]=.cond (.tmp 13) (P23 [1,1,1,0,1,0,0,0,1,0]) (P23 [1,1,1,0,1,0,0,0,1,1]):=by kernel_rfl
theorem k23_22:P23 [1,1,1,0,1,0,0,0,1,0]=.skip:=by kernel_rfl
theorem k23_23:P23 [1,1,1,0,1,0,0,1]=.seq (P23 [1,1,1,0,1,0,0,1,0]) (P23 [1,1,1,0,1,0,0,1,1]):=by kernel_rfl
theorem k23_24:P23 [1,1,1,0,1,0,0,1,0]=.block 1 (P23 [1,1,1,0,1,0,0,1,0,0]):=by kernel_rfl
theorem k23_25:P23 [1,1,1,0,1,0,0,1,0,0]=.seq (P23 [1,1,1,0,1,0,0,1,0,0,0]) (P23 [1,1,1,0,1,0,0,1,0,0,1]):=by kernel_rfl
theorem k23_26:P23 [1,1,1,0,1,0,0,1,0,0,0]=.region 7 (O23 [1,1,1,0,1,0,0,1,0,0,0]) false:=by kernel_rfl
theorem r23_7 {M:Mem} {call:CallM} {K:Array Value→Mem→R} :
 opsK Try.prog (fun _=>call) (O23 [1,1,1,0,1,0,0,1,0,0,0]) (O23 [1,1,1,0,1,0,0,1,0,0,0]).toList 0 #[g0,g1,g2,g3,g4,g5,g6,g7,g8,g9,gA,gB,gC,gD,gE,gF,gG,gH,gI,gJ,gK,gL,gM,gN,gO,gP,gQ,gR,gS,gT,gU,gV,gW,gX,gY,gZ] M K=(call 39 #[] M).bind fun r_1=>(asP r_1.1).bind fun p_2=>K #[g0,g1,g2,g3,g4,g5,.pointer p_2,g7,g8,g9,gA,gB,gC,gD,gE,gF,.pointer p_2,gH,gI,gJ,gK,gL,gM,gN,gO,gP,gQ,gR,gS,gT,gU,gV,gW,gX,gY,gZ] r_1.2:=by kernel_rfl
theorem k23_27:P23 [1,1,1,0,1,0,0,1,0,0,1]=.seq (P23 [1,1,1,0,1,0,0,1,0,0,1,0]) (P23 [1,1,1,0,1,0,0,1,0,0,1,1]):=by kernel_rfl
theorem k23_28:P23 [1,1,1,0,1,0,0,1,0,0,1,0]=.region 8 (O23 [1,1,1,0,1,0,0,1,0,0,1,0]) false:=by kernel_rfl
theorem r23_8 {Y0:Option Addr} {l0 y0:Nat} {x5:Int} {x6:Option Addr} {M:Mem} {call:CallM} {K:Array Value→Mem→R} :
 opsK Try.prog (fun _=>call) (O23 [1,1,1,0,1,0,0,1,0,0,1,0]) (O23 [1,1,1,0,1,0,0,1,0,0,1,0]).toList 0 #[.slice Y0 l0 y0,g1,g2,g3,g4,.int .i64 x5,.pointer x6,g7,g8,g9,gA,gB,gC,gD,gE,gF,gG,gH,gI,gJ,gK,gL,gM,gN,gO,gP,gQ,gR,gS,gT,gU,gV,gW,gX,gY,gZ] M K=(idxA Y0 l0 1 x5).bind fun a_1=>(M.slAt a_1.block a_1.off).bind fun s_2=>(call 40 #[.pointer x6,.int .u32 (IntKind.u32.wrap ((s_2.2.1:Int)))] M).bind fun r_3=>(asI .i64 r_3.1).bind fun x_4=>K #[.slice Y0 l0 y0,g1,g2,g3,g4,.int .i64 x5,.pointer x6,g7,g8,g9,gA,gB,gC,gD,gE,gF,gG,.pointer x6,.slice Y0 l0 y0,.int .i64 x5,.pointer (some a_1),.slice s_2.1 (s_2.2.1) (s_2.2.2),.int .i64 ((s_2.2.1:Int)),.int .u32 (IntKind.u32.wrap ((s_2.2.1:Int))),.int .i64 x_4,gP,gQ,gR,gS,gT,gU,gV,gW,gX,gY,gZ] r_3.2:=by kernel_rfl
theorem k23_29:P23 [1,1,1,0,1,0,0,1,0,0,1,1]=.seq (P23 [1,1,1,0,1,0,0,1,0,0,1,1,0]) (P23 [1,1,1,0,1,0,0,1,0,0,1,1,1]):=by kernel_rfl
theorem k23_30:P23 [1,1,1,0,1,0,0,1,0,0,1,1,0]=.region 9 (O23 [1,1,1,0,1,0,0,1,0,0,1,1,0]) false:=by kernel_rfl
theorem r23_9 {Y4:Option Addr} {l4 y4:Nat} {x6:Option Addr} {M:Mem} {call:CallM} {K:Array Value→Mem→R} :
 opsK Try.prog (fun _=>call) (O23 [1,1,1,0,1,0,0,1,0,0,1,1,0]) (O23 [1,1,1,0,1,0,0,1,0,0,1,1,0]).toList 0 #[g0,g1,g2,g3,.slice Y4 l4 y4,g5,.pointer x6,g7,g8,g9,gA,gB,gC,gD,gE,gF,gG,gH,gI,gJ,gK,gL,gM,gN,gO,gP,gQ,gR,gS,gT,gU,gV,gW,gX,gY,gZ] M K=(call 41 #[.pointer x6] M).bind fun r_1=>(asS r_1.1).bind fun s_2=>(appendP Try.prog #[46,46] (.slice Y4 l4 y4) (.slice s_2.1 (s_2.2.1) (s_2.2.2)) r_1.2).bind fun r_3=>(asS r_3.1).bind fun s_4=>K #[g0,g1,g2,g3,.slice s_4.1 (s_4.2.1) (s_4.2.2),g5,.pointer x6,g7,g8,g9,gA,gB,gC,gD,gE,gF,gG,gH,gI,gJ,gK,gL,gM,gN,gO,.slice Y4 l4 y4,.pointer x6,.slice s_2.1 (s_2.2.1) (s_2.2.2),.slice s_4.1 (s_4.2.1) (s_4.2.2),gT,gU,gV,gW,gX,gY,gZ] r_3.2:=by kernel_rfl
theorem k23_31:P23 [1,1,1,0,1,0,0,1,0,0,1,1,1]=.region 10 (O23 [1,1,1,0,1,0,0,1,0,0,1,1,1]) false:=by kernel_rfl
theorem r23_10 {Y0:Option Addr} {l0 y0:Nat} {Y4:Option Addr} {l4 y4:Nat} {x5:Int} {M:Mem} {call:CallM} {K:Array Value→Mem→R} :
 opsK Try.prog (fun _=>call) (O23 [1,1,1,0,1,0,0,1,0,0,1,1,1]) (O23 [1,1,1,0,1,0,0,1,0,0,1,1,1]).toList 0 #[.slice Y0 l0 y0,g1,g2,g3,.slice Y4 l4 y4,.int .i64 x5,g6,g7,g8,g9,gA,gB,gC,gD,gE,gF,gG,gH,gI,gJ,gK,gL,gM,gN,gO,gP,gQ,gR,gS,gT,gU,gV,gW,gX,gY,gZ] M K=(idxA Y0 l0 1 x5).bind fun a_1=>(M.slAt a_1.block a_1.off).bind fun s_2=>(appendP Try.prog #[46,46] (.slice Y4 l4 y4) (.slice s_2.1 (s_2.2.1) (s_2.2.2)) M).bind fun r_3=>(asS r_3.1).bind fun s_4=>K #[.slice Y0 l0 y0,g1,g2,g3,.slice s_4.1 (s_4.2.1) (s_4.2.2),.int .i64 x5,g6,g7,g8,g9,gA,gB,gC,gD,gE,gF,gG,gH,gI,gJ,gK,gL,gM,gN,gO,gP,gQ,gR,gS,.slice Y4 l4 y4,.slice Y0 l0 y0,.int .i64 x5,.pointer (some a_1),.slice s_2.1 (s_2.2.1) (s_2.2.2),.slice s_4.1 (s_4.2.1) (s_4.2.2),gZ] r_3.2:=by kernel_rfl
theorem k23_32:P23 [1,1,1,0,1,0,0,1,1]=.region 6 (O23 [1,1,1,0,1,0,0,1,1]) false:=by kernel_rfl
theorem r23_6 {x5:Int} {M:Mem} {call:CallM} {K:Array Value→Mem→R} :
 opsK Try.prog (fun _=>call) (O23 [1,1,1,0,1,0,0,1,1]) (O23 [1,1,1,0,1,0,0,1,1]).toList 0 #[g0,g1,g2,g3,g4,.int .i64 x5,g6,g7,g8,g9,gA,gB,gC,gD,gE,gF,gG,gH,gI,gJ,gK,gL,gM,gN,gO,gP,gQ,gR,gS,gT,gU,gV,gW,gX,gY,gZ] M K=K #[g0,g1,g2,g3,g4,.int .i64 (IntKind.i64.wrap (x5+1)),g6,g7,g8,g9,gA,gB,gC,gD,.int .i64 x5,.int .i64 (IntKind.i64.wrap (x5+1)),gG,gH,gI,gJ,gK,gL,gM,gN,gO,gP,gQ,gR,gS,gT,gU,gV,gW,gX,gY,gZ] M:=by kernel_rfl
theorem k23_33:P23 [1,1,1,0,1,0,0,0,1,1]=.exit 0:=by kernel_rfl
theorem k23_34:P23 [1,1,1,1]=.seq (P23 [1,1,1,1,0]) (P23 [1,1,1,1,1]):=by kernel_rfl
theorem k23_35:P23 [1,1,1,1,0]=.region 11 (O23 [1,1,1,1,0]) false:=by kernel_rfl
theorem r23_11 {Y4:Option Addr} {l4 y4:Nat} {M:Mem} {call:CallM} {K:Array Value→Mem→R} :
 opsK Try.prog (fun _=>call) (O23 [1,1,1,1,0]) (O23 [1,1,1,1,0]).toList 0 #[g0,g1,g2,g3,.slice Y4 l4 y4,g5,g6,g7,g8,g9,gA,gB,gC,gD,gE,gF,gG,gH,gI,gJ,gK,gL,gM,gN,gO,gP,gQ,gR,gS,gT,gU,gV,gW,gX,gY,gZ] M K=K #[g0,g1,.slice Y4 l4 y4,.int .i64 0,.slice Y4 l4 y4,g5,g6,g7,g8,g9,gA,gB,gC,gD,gE,gF,gG,gH,gI,gJ,gK,gL,gM,gN,gO,gP,gQ,gR,gS,gT,gU,gV,gW,gX,gY,.slice Y4 l4 y4] M:=by kernel_rfl
theorem k23_36:P23 [1,1,1,1,1]=.ret:=by kernel_rfl
noncomputable def S23_1:List Item:=[.code (P23 [1,1,1,0,1,0,0]),.inLoop (P23 [1,1,1,0,1,0,0]),.inBlock 0,.code (P23 [1,1,1,1])]
def A23_1 (Y0:Option Addr) (l0 y0:Nat) (Y4:Option Addr) (l4 y4:Nat) (x5:Int) (M:Mem) (Q:Value→Mem→Prop):Prop:=∀ (g1 g2 g3 g6 g7 g8 g9 gA gB gC gD gE gF gG gH gI gJ gK gL gM gN gO gP gQ gR gS gT gU gV gW gX gY gZ:Value),Rn Try.prog Try.f23 S23_1 #[.slice Y0 l0 y0,g1,g2,g3,.slice Y4 l4 y4,.int .i64 x5,g6,g7,g8,g9,gA,gB,gC,gD,gE,gF,gG,gH,gI,gJ,gK,gL,gM,gN,gO,gP,gQ,gR,gS,gT,gU,gV,gW,gX,gY,gZ] M Q
theorem w23_0 {Y0:Option Addr} {l0 y0:Nat} {M:Mem} {Q:Value→Mem→Prop} (H :
 ((((l0:Int))>16→
 Q (.tuple #[.slice none 0 0,.int .i64 7]) M)∧
 (¬(((l0:Int))>16)→
 A23_1 Y0 l0 y0 none 0 0 0 M Q))):
 Cn Try.prog 23 #[.slice Y0 l0 y0] M Q:=by
  refine Cn.of b23 d23 t23 ?_
  refine Rn.seq k23_0 (Rn.region k23_1 (fun call K=>r23_0) (Rch.leaf (Rn.seq k23_2 (Rn.seq k23_3 (Rn.region k23_4 (fun call K=>r23_1) (Rch.leaf ?_))))))
  refine Rn.cnd (v:=decide (((l0:Int))>16)) ⟨c23_5,rfl,by kernel_rfl⟩ (fun h=>?_) (fun h=>?_)
  · replace H:=H.1 (of_decide_eq_true h)
    refine Rn.seq k23_6 (Rn.region k23_7 (fun call K=>r23_2) (Rch.leaf ?_))
    exact Rn.ret k23_8 e23 H
  · replace H:=H.2 (of_decide_eq_false h)
    refine Rn.skip k23_10 (Rn.seq k23_11 (Rn.region k23_12 (fun call K=>r23_3) (Rch.leaf (Rn.seq k23_13 (Rn.seq k23_14 (Rn.region k23_15 (fun call K=>r23_4) (Rch.leaf (Rn.block k23_16 (Rn.loop k23_17 ?_)))))))))
    exact H ..
theorem w23_1 {Y0:Option Addr} {l0 y0:Nat} {Y4:Option Addr} {l4 y4:Nat} {x5:Int} {M:Mem} {Q:Value→Mem→Prop} (H :
 ((x5<((l0:Int))→
 Cn Try.prog 39 #[] M fun v1' N1'=>
 ∃p2',asP v1'=some p2'∧
 ∃a3',idxA Y0 l0 1 x5=some a3'∧
 ∃s4',N1'.slAt a3'.block a3'.off=some s4'∧
 Cn Try.prog 40 #[.pointer p2',.int .u32 (IntKind.u32.wrap ((s4'.2.1:Int)))] N1' fun v5' N5'=>
 ∃x6',asI .i64 v5'=some x6'∧
 Cn Try.prog 41 #[.pointer p2'] N5' fun v7' N7'=>
 ∃s8',asS v7'=some s8'∧
 ∃r9',appendP Try.prog #[46,46] (.slice Y4 l4 y4) (.slice s8'.1 (s8'.2.1) (s8'.2.2)) N7'=some r9'∧
 ∃s10',asS r9'.1=some s10'∧
 ∃a11',idxA Y0 l0 1 x5=some a11'∧
 ∃s12',r9'.2.slAt a11'.block a11'.off=some s12'∧
 ∃r13',appendP Try.prog #[46,46] (.slice s10'.1 s10'.2.1 s10'.2.2) (.slice s12'.1 (s12'.2.1) (s12'.2.2)) r9'.2=some r13'∧
 ∃s14',asS r13'.1=some s14'∧
 A23_1 Y0 l0 y0 s14'.1 s14'.2.1 s14'.2.2 (IntKind.i64.wrap (x5+1)) r13'.2 Q)∧
 (¬(x5<((l0:Int)))→
 Q (.tuple #[.slice Y4 l4 y4,.int .i64 0]) M))):
 A23_1 Y0 l0 y0 Y4 l4 y4 x5 M Q:=by
  iterate 33 intro _
  refine Rn.seq k23_18 (Rn.seq k23_19 (Rn.region k23_20 (fun call K=>r23_5) (Rch.leaf ?_)))
  refine Rn.cnd (v:=decide (x5<((l0:Int)))) ⟨c23_21,rfl,by kernel_rfl⟩ (fun h=>?_) (fun h=>?_)
  · replace H:=H.1 (of_decide_eq_true h)
    refine Rn.skip k23_22 (Rn.seq k23_23 (Rn.block k23_24 (Rn.seq k23_25 (Rn.region k23_26 (fun call K=>r23_7) (Rch.call H fun v1' N1' H=>Rch.ex H fun p2' H=>Rch.leaf (Rn.seq k23_27 (Rn.region k23_28 (fun call K=>r23_8) (Rch.ex H fun a3' H=>Rch.ex H fun s4' H=>?_))))))))
    refine Rch.call H fun v5' N5' H=>Rch.ex H fun x6' H=>Rch.leaf (Rn.seq k23_29 (Rn.region k23_30 (fun call K=>r23_9) (Rch.call H fun v7' N7' H=>Rch.ex H fun s8' H=>Rch.ex H fun r9' H=>Rch.ex H fun s10' H=>Rch.leaf (Rn.region k23_31 (fun call K=>r23_10) (Rch.ex H fun a11' H=>?_)))))
    refine Rch.ex H fun s12' H=>Rch.ex H fun r13' H=>Rch.ex H fun s14' H=>Rch.leaf (Rn.blk (Rn.region k23_32 (fun call K=>r23_6) (Rch.leaf (Rn.lp ?_))))
    exact H ..
  · replace H:=H.2 (of_decide_eq_false h)
    refine Rn.exit k23_33 rfl (Rn.seq k23_34 (Rn.region k23_35 (fun call K=>r23_11) (Rch.leaf ?_)))
    exact Rn.ret k23_36 e23 H
noncomputable abbrev P35 (p:List Nat):Code:=subC (codeOf Try.f35) p
noncomputable abbrev O35 (p:List Nat):Array Oper:=opsOf (subC (codeOf Try.f35) p)
theorem b35:Try.prog.funcs[35]?=some Try.f35∧(Orc.tab Try.prog).lookup 35=none:=⟨by kernel_rfl,by kernel_rfl⟩
theorem d35:Try.f35.body=some (P35 []):=by kernel_rfl
theorem t35 {x0 x1 x2:Int}:#[.int .i64 x0,.int .i64 x1,.int .i64 x2] ++ Array.replicate (Try.f35.ntmps-(#[.int .i64 x0,.int .i64 x1,.int .i64 x2]:Array Value).size) undef=#[.int .i64 x0,.int .i64 x1,.int .i64 x2,undef,undef,undef,undef,undef,undef,undef,undef,undef,undef,undef,undef]:=by kernel_rfl
theorem k35_0:P35 []=.seq (P35 [0]) (P35 [1]):=by kernel_rfl
theorem k35_1:P35 [0]=.region 0 (O35 [0]) false:=by kernel_rfl
theorem r35_0 {M:Mem} {call:CallM} {K:Array Value→Mem→R} :
 opsK Try.prog (fun _=>call) (O35 [0]) (O35 [0]).toList 0 #[g0,g1,g2,g3,g4,g5,g6,g7,g8,g9,gA,gB,gC,gD,gE] M K=K #[g0,g1,g2,g3,g4,g5,.bool false,g7,g8,g9,gA,gB,gC,gD,gE] M:=by kernel_rfl
theorem k35_2:P35 [1]=.seq (P35 [1,0]) (P35 [1,1]):=by kernel_rfl
theorem k35_3:P35 [1,0]=.region 1 (O35 [1,0]) false:=by kernel_rfl
theorem r35_1 {x0 x1 x2:Int} {M:Mem} {call:CallM} {K:Array Value→Mem→R} :
 opsK Try.prog (fun _=>call) (O35 [1,0]) (O35 [1,0]).toList 0 #[.int .i64 x0,.int .i64 x1,.int .i64 x2,g3,g4,g5,g6,g7,g8,g9,gA,gB,gC,gD,gE] M K=withK (fun w6 w10 w11 w12 w13 w14 M=>K #[.int .i64 x0,.int .i64 x1,.int .i64 x2,g3,g4,g5,w6,.int .i64 x0,.int .i64 x1,.bool (decide (x0≥x1)),w10,w11,w12,w13,w14] M) fun k=>cond (decide (x0≥x1)) (k (.bool (decide (x0≤x2))) (.bool true) (.int .i64 x0) (.int .i64 x2) (.bool (decide (x0≤x2))) (.bool (decide (x0≤x2))) M) (k (.bool false) (.bool false) undef undef undef (.bool false) M):=by kernel_rfl
theorem k35_4:P35 [1,1]=.ret:=by kernel_rfl
theorem e35 {M:Mem}:finish Try.prog Try.f35 #[g0,g1,g2,g3,g4,g5,g6,g7,g8,g9,gA,gB,gC,gD,gE] M=some (g6,M):=by kernel_rfl
theorem w35_0 {x0 x1 x2:Int} {M:Mem} {Q:Value→Mem→Prop} (H :
 ((x0≥x1→
 Q (.bool (decide (x0≤x2))) M)∧
 (¬(x0≥x1)→
 Q (.bool false) M))):
 Cn Try.prog 35 #[.int .i64 x0,.int .i64 x1,.int .i64 x2] M Q:=by
  refine Cn.of b35 d35 t35 ?_
  refine Rn.seq k35_0 (Rn.region k35_1 (fun call K=>r35_0) (Rch.leaf (Rn.seq k35_2 (Rn.region k35_3 (fun call K=>r35_1) ?_))))
  refine Rch.cB (fun h=>?_) (fun h=>?_)
  · replace H:=H.1 (of_decide_eq_true h)
    refine Rch.leaf ?_
    exact Rn.ret k35_4 e35 H
  · replace H:=H.2 (of_decide_eq_false h)
    refine Rch.leaf ?_
    exact Rn.ret k35_4 e35 H
noncomputable abbrev P45 (p:List Nat):Code:=subC (codeOf Try.f45) p
noncomputable abbrev O45 (p:List Nat):Array Oper:=opsOf (subC (codeOf Try.f45) p)
theorem b45:Try.prog.funcs[45]?=some Try.f45∧(Orc.tab Try.prog).lookup 45=none:=⟨by kernel_rfl,by kernel_rfl⟩
theorem d45:Try.f45.body=some (P45 []):=by kernel_rfl
theorem t45 {x0 x1 x2:Int}:#[.int .i64 x0,.int .i64 x1,.int .i64 x2] ++ Array.replicate (Try.f45.ntmps-(#[.int .i64 x0,.int .i64 x1,.int .i64 x2]:Array Value).size) undef=#[.int .i64 x0,.int .i64 x1,.int .i64 x2,undef,undef,undef,undef,undef,undef,undef,undef,undef,undef,undef,undef]:=by kernel_rfl
theorem k45_0:P45 []=.seq (P45 [0]) (P45 [1]):=by kernel_rfl
theorem k45_1:P45 [0]=.region 0 (O45 [0]) false:=by kernel_rfl
theorem r45_0 {M:Mem} {call:CallM} {K:Array Value→Mem→R} :
 opsK Try.prog (fun _=>call) (O45 [0]) (O45 [0]).toList 0 #[g0,g1,g2,g3,g4,g5,g6,g7,g8,g9,gA,gB,gC,gD,gE] M K=K #[g0,g1,g2,g3,g4,g5,.bool false,g7,g8,g9,gA,gB,gC,gD,gE] M:=by kernel_rfl
theorem k45_2:P45 [1]=.seq (P45 [1,0]) (P45 [1,1]):=by kernel_rfl
theorem k45_3:P45 [1,0]=.region 1 (O45 [1,0]) false:=by kernel_rfl
theorem r45_1 {x0 x1 x2:Int} {M:Mem} {call:CallM} {K:Array Value→Mem→R} :
 opsK Try.prog (fun _=>call) (O45 [1,0]) (O45 [1,0]).toList 0 #[.int .i64 x0,.int .i64 x1,.int .i64 x2,g3,g4,g5,g6,g7,g8,g9,gA,gB,gC,gD,gE] M K=withK (fun w6 w10 w11 w12 w13 w14 M=>K #[.int .i64 x0,.int .i64 x1,.int .i64 x2,g3,g4,g5,w6,.int .i64 x0,.int .i64 x1,.bool (decide (x0≥x1)),w10,w11,w12,w13,w14] M) fun k=>cond (decide (x0≥x1)) (k (.bool (decide (x0≤x2))) (.bool true) (.int .i64 x0) (.int .i64 x2) (.bool (decide (x0≤x2))) (.bool (decide (x0≤x2))) M) (k (.bool false) (.bool false) undef undef undef (.bool false) M):=by kernel_rfl
theorem k45_4:P45 [1,1]=.ret:=by kernel_rfl
theorem e45 {M:Mem}:finish Try.prog Try.f45 #[g0,g1,g2,g3,g4,g5,g6,g7,g8,g9,gA,gB,gC,gD,gE] M=some (g6,M):=by kernel_rfl
theorem w45_0 {x0 x1 x2:Int} {M:Mem} {Q:Value→Mem→Prop} (H :
 ((x0≥x1→
 Q (.bool (decide (x0≤x2))) M)∧
 (¬(x0≥x1)→
 Q (.bool false) M))):
 Cn Try.prog 45 #[.int .i64 x0,.int .i64 x1,.int .i64 x2] M Q:=by
  refine Cn.of b45 d45 t45 ?_
  refine Rn.seq k45_0 (Rn.region k45_1 (fun call K=>r45_0) (Rch.leaf (Rn.seq k45_2 (Rn.region k45_3 (fun call K=>r45_1) ?_))))
  refine Rch.cB (fun h=>?_) (fun h=>?_)
  · replace H:=H.1 (of_decide_eq_true h)
    refine Rch.leaf ?_
    exact Rn.ret k45_4 e45 H
  · replace H:=H.2 (of_decide_eq_false h)
    refine Rch.leaf ?_
    exact Rn.ret k45_4 e45 H
noncomputable abbrev P26 (p:List Nat):Code:=subC (codeOf Try.f26) p
noncomputable abbrev O26 (p:List Nat):Array Oper:=opsOf (subC (codeOf Try.f26) p)
theorem b26:Try.prog.funcs[26]?=some Try.f26∧(Orc.tab Try.prog).lookup 26=none:=⟨by kernel_rfl,by kernel_rfl⟩
theorem d26:Try.f26.body=some (P26 []):=by kernel_rfl
theorem t26 {Y0:Option Addr} {l0 y0:Nat} {x1:Int}:#[.slice Y0 l0 y0,.int .i64 x1] ++ Array.replicate (Try.f26.ntmps-(#[.slice Y0 l0 y0,.int .i64 x1]:Array Value).size) undef=#[.slice Y0 l0 y0,.int .i64 x1,undef,undef,undef,undef,undef,undef,undef,undef,undef,undef,undef,undef,undef,undef,undef,undef,undef,undef,undef,undef,undef,undef,undef,undef,undef,undef,undef,undef,undef,undef,undef,undef,undef,undef,undef,undef,undef,undef,undef,undef,undef,undef,undef,undef,undef,undef,undef]:=by kernel_rfl
theorem k26_0:P26 []=.seq (P26 [0]) (P26 [1]):=by kernel_rfl
theorem k26_1:P26 [0]=.region 0 (O26 [0]) false:=by kernel_rfl
theorem r26_0 {M:Mem} {call:CallM} {K:Array Value→Mem→R} :
 opsK Try.prog (fun _=>call) (O26 [0]) (O26 [0]).toList 0 #[g0,g1,g2,g3,g4,g5,g6,g7,g8,g9,gA,gB,gC,gD,gE,gF,gG,gH,gI,gJ,gK,gL,gM,gN,gO,gP,gQ,gR,gS,gT,gU,gV,gW,gX,gY,gZ,hA,hB,hC,hD,hE,hF,hG,hH,hI,hJ,hK,hL,hM] M K=K #[g0,g1,g2,g3,.slice none 0 0,.int .i64 0,g6,g7,g8,g9,gA,gB,gC,gD,gE,gF,gG,gH,gI,gJ,gK,gL,gM,gN,gO,gP,gQ,gR,gS,gT,gU,gV,gW,gX,gY,gZ,hA,hB,hC,hD,hE,hF,hG,hH,hI,hJ,hK,hL,hM] M:=by kernel_rfl
theorem k26_2:P26 [1]=.seq (P26 [1,0]) (P26 [1,1]):=by kernel_rfl
theorem k26_3:P26 [1,0]=.seq (P26 [1,0,0]) (P26 [1,0,1]):=by kernel_rfl
theorem k26_4:P26 [1,0,0]=.region 1 (O26 [1,0,0]) false:=by kernel_rfl
theorem r26_1 {x1:Int} {M:Mem} {call:CallM} {K:Array Value→Mem→R} :
 opsK Try.prog (fun _=>call) (O26 [1,0,0]) (O26 [1,0,0]).toList 0 #[g0,.int .i64 x1,g2,g3,g4,g5,g6,g7,g8,g9,gA,gB,gC,gD,gE,gF,gG,gH,gI,gJ,gK,gL,gM,gN,gO,gP,gQ,gR,gS,gT,gU,gV,gW,gX,gY,gZ,hA,hB,hC,hD,hE,hF,hG,hH,hI,hJ,hK,hL,hM] M K=(call 35 #[.int .i64 x1,.int .i64 1,.int .i64 16] M).bind fun r_1=>(asB r_1.1).bind fun b_2=>K #[g0,.int .i64 x1,g2,g3,g4,g5,g6,g7,g8,g9,.int .i64 x1,.bool b_2,.bool (!b_2),gD,gE,gF,gG,gH,gI,gJ,gK,gL,gM,gN,gO,gP,gQ,gR,gS,gT,gU,gV,gW,gX,gY,gZ,hA,hB,hC,hD,hE,hF,hG,hH,hI,hJ,hK,hL,hM] r_1.2:=by kernel_rfl
theorem c26_5:P26 [1,0,1]=.cond (.tmp 12) (P26 [1,0,1,0]) (P26 [1,0,1,1]):=by kernel_rfl
theorem k26_6:P26 [1,0,1,0]=.seq (P26 [1,0,1,0,0]) (P26 [1,0,1,0,1]):=by kernel_rfl
theorem k26_7:P26 [1,0,1,0,0]=.region 2 (O26 [1,0,1,0,0]) false:=by kernel_rfl
theorem r26_2 {M:Mem} {call:CallM} {K:Array Value→Mem→R} :
 opsK Try.prog (fun _=>call) (O26 [1,0,1,0,0]) (O26 [1,0,1,0,0]).toList 0 #[g0,g1,g2,g3,g4,g5,g6,g7,g8,g9,gA,gB,gC,gD,gE,gF,gG,gH,gI,gJ,gK,gL,gM,gN,gO,gP,gQ,gR,gS,gT,gU,gV,gW,gX,gY,gZ,hA,hB,hC,hD,hE,hF,hG,hH,hI,hJ,hK,hL,hM] M K=K #[g0,g1,g2,g3,.slice none 0 0,.int .i64 2,g6,g7,g8,g9,gA,gB,gC,gD,gE,gF,gG,gH,gI,gJ,gK,gL,gM,gN,gO,gP,gQ,gR,gS,gT,gU,gV,gW,gX,gY,gZ,hA,hB,hC,hD,hE,hF,hG,hH,hI,hJ,hK,hL,hM] M:=by kernel_rfl
theorem k26_8:P26 [1,0,1,0,1]=.ret:=by kernel_rfl
theorem e26 {M:Mem}:finish Try.prog Try.f26 #[g0,g1,g2,g3,g4,g5,g6,g7,g8,g9,gA,gB,gC,gD,gE,gF,gG,gH,gI,gJ,gK,gL,gM,gN,gO,gP,gQ,gR,gS,gT,gU,gV,gW,gX,gY,gZ,hA,hB,hC,hD,hE,hF,hG,hH,hI,hJ,hK,hL,hM] M=some (.tuple #[g4,g5],M):=by kernel_rfl
theorem k26_10:P26 [1,0,1,1]=.skip:=by kernel_rfl
theorem k26_11:P26 [1,1]=.seq (P26 [1,1,0]) (P26 [1,1,1]):=by kernel_rfl
theorem k26_12:P26 [1,1,0]=.region 3 (O26 [1,1,0]) false:=by kernel_rfl
theorem r26_3 {M:Mem} {call:CallM} {K:Array Value→Mem→R} :
 opsK Try.prog (fun _=>call) (O26 [1,1,0]) (O26 [1,1,0]).toList 0 #[g0,g1,g2,g3,g4,g5,g6,g7,g8,g9,gA,gB,gC,gD,gE,gF,gG,gH,gI,gJ,gK,gL,gM,gN,gO,gP,gQ,gR,gS,gT,gU,gV,gW,gX,gY,gZ,hA,hB,hC,hD,hE,hF,hG,hH,hI,hJ,hK,hL,hM] M K=K #[g0,g1,g2,g3,g4,g5,.slice none 0 0,g7,g8,g9,gA,gB,gC,gD,gE,gF,gG,gH,gI,gJ,gK,gL,gM,gN,gO,gP,gQ,gR,gS,gT,gU,gV,gW,gX,gY,gZ,hA,hB,hC,hD,hE,hF,hG,hH,hI,hJ,hK,hL,hM] M:=by kernel_rfl
theorem k26_13:P26 [1,1,1]=.seq (P26 [1,1,1,0]) (P26 [1,1,1,1]):=by kernel_rfl
theorem k26_14:P26 [1,1,1,0]=.seq (P26 [1,1,1,0,0]) (P26 [1,1,1,0,1]):=by kernel_rfl
theorem k26_15:P26 [1,1,1,0,0]=.region 4 (O26 [1,1,1,0,0]) false:=by kernel_rfl
theorem r26_4 {x1:Int} {M:Mem} {call:CallM} {K:Array Value→Mem→R} :
 opsK Try.prog (fun _=>call) (O26 [1,1,1,0,0]) (O26 [1,1,1,0,0]).toList 0 #[g0,.int .i64 x1,g2,g3,g4,g5,g6,g7,g8,g9,gA,gB,gC,gD,gE,gF,gG,gH,gI,gJ,gK,gL,gM,gN,gO,gP,gQ,gR,gS,gT,gU,gV,gW,gX,gY,gZ,hA,hB,hC,hD,hE,hF,hG,hH,hI,hJ,hK,hL,hM] M K=K #[g0,.int .i64 x1,g2,g3,g4,g5,g6,g7,g8,g9,gA,gB,gC,.int .i64 x1,.int .i64 0,gF,gG,gH,gI,gJ,gK,gL,gM,gN,gO,gP,gQ,gR,gS,gT,gU,gV,gW,gX,gY,gZ,hA,hB,hC,hD,hE,hF,hG,hH,hI,hJ,hK,hL,hM] M:=by kernel_rfl
theorem k26_16:P26 [1,1,1,0,1]=.block 0 (P26 [1,1,1,0,1,0]):=by kernel_rfl
theorem k26_17:P26 [1,1,1,0,1,0]=.loop (P26 [1,1,1,0,1,0,0]):=by kernel_rfl
theorem k26_18:P26 [1,1,1,0,1,0,0]=.seq (P26 [1,1,1,0,1,0,0,0]) (P26 [1,1,1,0,1,0,0,1]):=by kernel_rfl
theorem k26_19:P26 [1,1,1,0,1,0,0,0]=.region 5 (O26 [1,1,1,0,1,0,0,0]) false:=by kernel_rfl
theorem r26_5 {x13 x14:Int} {M:Mem} {call:CallM} {K:Array Value→Mem→R} :
 opsK Try.prog (fun _=>call) (O26 [1,1,1,0,1,0,0,0]) (O26 [1,1,1,0,1,0,0,0]).toList 0 #[g0,g1,g2,g3,g4,g5,g6,g7,g8,g9,gA,gB,gC,.int .i64 x13,.int .i64 x14,gF,gG,gH,gI,gJ,gK,gL,gM,gN,gO,gP,gQ,gR,gS,gT,gU,gV,gW,gX,gY,gZ,hA,hB,hC,hD,hE,hF,hG,hH,hI,hJ,hK,hL,hM] M K=K #[g0,g1,g2,g3,g4,g5,g6,g7,g8,g9,gA,gB,gC,.int .i64 x13,.int .i64 x14,.bool (decide (x14<x13)),gG,gH,gI,gJ,gK,gL,gM,gN,gO,gP,gQ,gR,gS,gT,gU,gV,gW,gX,gY,gZ,hA,hB,hC,hD,hE,hF,hG,hH,hI,hJ,hK,hL,hM] M:=by kernel_rfl
theorem k26_20:P26 [1,1,1,0,1,0,0,1]=.seq (P26 [1,1,1,0,1,0,0,1,0]) (P26 [1,1,1,0,1,0,0,1,1]):=by kernel_rfl
theorem c26_21:P26 [1,1,1,0,1,0,0,1,0]=.cond (.tmp 15) (P26 [1,1,1,0,1,0,0,1,0,0]) (P26 [1,1,1,0,1,0,0,1,0,1]):=by kernel_rfl
theorem k26_22:P26 [1,1,1,0,1,0,0,1,0,0]=.skip:=by kernel_rfl
theorem k26_23:P26 [1,1,1,0,1,0,0,1,1]=.seq (P26 [1,1,1,0,1,0,0,1,1,0]) (P26 [1,1,1,0,1,0,0,1,1,1]):=by kernel_rfl
theorem k26_24:P26 [1,1,1,0,1,0,0,1,1,0]=.block 1 (P26 [1,1,1,0,1,0,0,1,1,0,0]):=by kernel_rfl
theorem k26_25:P26 [1,1,1,0,1,0,0,1,1,0,0]=.seq (P26 [1,1,1,0,1,0,0,1,1,0,0,0]) (P26 [1,1,1,0,1,0,0,1,1,0,0,1]):=by kernel_rfl
theorem k26_26:P26 [1,1,1,0,1,0,0,1,1,0,0,0]=.region 6 (O26 [1,1,1,0,1,0,0,1,1,0,0,0]) false:=by kernel_rfl
theorem r26_6 {Y0:Option Addr} {l0 y0:Nat} {M:Mem} {call:CallM} {K:Array Value→Mem→R} :
 opsK Try.prog (fun _=>call) (O26 [1,1,1,0,1,0,0,1,1,0,0,0]) (O26 [1,1,1,0,1,0,0,1,1,0,0,0]).toList 0 #[.slice Y0 l0 y0,g1,g2,g3,g4,g5,g6,g7,g8,g9,gA,gB,gC,gD,gE,gF,gG,gH,gI,gJ,gK,gL,gM,gN,gO,gP,gQ,gR,gS,gT,gU,gV,gW,gX,gY,gZ,hA,hB,hC,hD,hE,hF,hG,hH,hI,hJ,hK,hL,hM] M K=(call 42 #[.slice Y0 l0 y0] M).bind fun r_1=>(asP r_1.1).bind fun p_2=>K #[.slice Y0 l0 y0,g1,g2,g3,g4,g5,g6,.pointer p_2,g8,g9,gA,gB,gC,gD,gE,gF,.slice Y0 l0 y0,.pointer p_2,gI,gJ,gK,gL,gM,gN,gO,gP,gQ,gR,gS,gT,gU,gV,gW,gX,gY,gZ,hA,hB,hC,hD,hE,hF,hG,hH,hI,hJ,hK,hL,hM] r_1.2:=by kernel_rfl
theorem k26_27:P26 [1,1,1,0,1,0,0,1,1,0,0,1]=.seq (P26 [1,1,1,0,1,0,0,1,1,0,0,1,0]) (P26 [1,1,1,0,1,0,0,1,1,0,0,1,1]):=by kernel_rfl
theorem k26_28:P26 [1,1,1,0,1,0,0,1,1,0,0,1,0]=.region 7 (O26 [1,1,1,0,1,0,0,1,1,0,0,1,0]) false:=by kernel_rfl
theorem r26_7 {x7:Option Addr} {M:Mem} {call:CallM} {K:Array Value→Mem→R} :
 opsK Try.prog (fun _=>call) (O26 [1,1,1,0,1,0,0,1,1,0,0,1,0]) (O26 [1,1,1,0,1,0,0,1,1,0,0,1,0]).toList 0 #[g0,g1,g2,g3,g4,g5,g6,.pointer x7,g8,g9,gA,gB,gC,gD,gE,gF,gG,gH,gI,gJ,gK,gL,gM,gN,gO,gP,gQ,gR,gS,gT,gU,gV,gW,gX,gY,gZ,hA,hB,hC,hD,hE,hF,hG,hH,hI,hJ,hK,hL,hM] M K=(call 43 #[.pointer x7] M).bind fun r_1=>(asU 2 r_1.1).bind fun cs_2=>(asI .u32 (cs_2.getD 0 undef)).bind fun x_3=>(asI .i64 (cs_2.getD 1 undef)).bind fun x_4=>K #[g0,g1,g2,g3,g4,g5,g6,.pointer x7,.int .u32 x_3,.int .i64 x_4,gA,gB,gC,gD,gE,gF,gG,gH,.tuple #[.int .u32 x_3,.int .i64 x_4],.pointer x7,.tuple #[.int .u32 x_3,.int .i64 x_4],.int .u32 x_3,.int .i64 x_4,gN,gO,gP,gQ,gR,gS,gT,gU,gV,gW,gX,gY,gZ,hA,hB,hC,hD,hE,hF,hG,hH,hI,hJ,hK,hL,hM] r_1.2:=by kernel_rfl
theorem k26_29:P26 [1,1,1,0,1,0,0,1,1,0,0,1,1]=.seq (P26 [1,1,1,0,1,0,0,1,1,0,0,1,1,0]) (P26 [1,1,1,0,1,0,0,1,1,0,0,1,1,1]):=by kernel_rfl
theorem k26_30:P26 [1,1,1,0,1,0,0,1,1,0,0,1,1,0]=.seq (P26 [1,1,1,0,1,0,0,1,1,0,0,1,1,0,0]) (P26 [1,1,1,0,1,0,0,1,1,0,0,1,1,0,1]):=by kernel_rfl
theorem k26_31:P26 [1,1,1,0,1,0,0,1,1,0,0,1,1,0,0]=.region 8 (O26 [1,1,1,0,1,0,0,1,1,0,0,1,1,0,0]) false:=by kernel_rfl
theorem r26_8 {x9:Int} {M:Mem} {call:CallM} {K:Array Value→Mem→R} :
 opsK Try.prog (fun _=>call) (O26 [1,1,1,0,1,0,0,1,1,0,0,1,1,0,0]) (O26 [1,1,1,0,1,0,0,1,1,0,0,1,1,0,0]).toList 0 #[g0,g1,g2,g3,g4,g5,g6,g7,g8,.int .i64 x9,gA,gB,gC,gD,gE,gF,gG,gH,gI,gJ,gK,gL,gM,gN,gO,gP,gQ,gR,gS,gT,gU,gV,gW,gX,gY,gZ,hA,hB,hC,hD,hE,hF,hG,hH,hI,hJ,hK,hL,hM] M K=K #[g0,g1,g2,g3,g4,g5,g6,g7,g8,.int .i64 x9,gA,gB,gC,gD,gE,gF,gG,gH,gI,gJ,gK,gL,gM,.int .i64 x9,.bool (x9 != 0),gP,gQ,gR,gS,gT,gU,gV,gW,gX,gY,gZ,hA,hB,hC,hD,hE,hF,hG,hH,hI,hJ,hK,hL,hM] M:=by kernel_rfl
theorem c26_32:P26 [1,1,1,0,1,0,0,1,1,0,0,1,1,0,1]=.cond (.tmp 24) (P26 [1,1,1,0,1,0,0,1,1,0,0,1,1,0,1,0]) (P26 [1,1,1,0,1,0,0,1,1,0,0,1,1,0,1,1]):=by kernel_rfl
theorem k26_33:P26 [1,1,1,0,1,0,0,1,1,0,0,1,1,0,1,0]=.seq (P26 [1,1,1,0,1,0,0,1,1,0,0,1,1,0,1,0,0]) (P26 [1,1,1,0,1,0,0,1,1,0,0,1,1,0,1,0,1]):=by kernel_rfl
theorem k26_34:P26 [1,1,1,0,1,0,0,1,1,0,0,1,1,0,1,0,0]=.region 9 (O26 [1,1,1,0,1,0,0,1,1,0,0,1,1,0,1,0,0]) false:=by kernel_rfl
theorem r26_9 {x9:Int} {M:Mem} {call:CallM} {K:Array Value→Mem→R} :
 opsK Try.prog (fun _=>call) (O26 [1,1,1,0,1,0,0,1,1,0,0,1,1,0,1,0,0]) (O26 [1,1,1,0,1,0,0,1,1,0,0,1,1,0,1,0,0]).toList 0 #[g0,g1,g2,g3,g4,g5,g6,g7,g8,.int .i64 x9,gA,gB,gC,gD,gE,gF,gG,gH,gI,gJ,gK,gL,gM,gN,gO,gP,gQ,gR,gS,gT,gU,gV,gW,gX,gY,gZ,hA,hB,hC,hD,hE,hF,hG,hH,hI,hJ,hK,hL,hM] M K=K #[g0,g1,g2,g3,.slice none 0 0,.int .i64 x9,g6,g7,g8,.int .i64 x9,gA,gB,gC,gD,gE,gF,gG,gH,gI,gJ,gK,gL,gM,gN,gO,.int .i64 x9,gQ,gR,gS,gT,gU,gV,gW,gX,gY,gZ,hA,hB,hC,hD,hE,hF,hG,hH,hI,hJ,hK,hL,hM] M:=by kernel_rfl
theorem k26_35:P26 [1,1,1,0,1,0,0,1,1,0,0,1,1,0,1,0,1]=.ret:=by kernel_rfl
theorem k26_36:P26 [1,1,1,0,1,0,0,1,1,0,0,1,1,0,1,1]=.skip:=by kernel_rfl
theorem k26_37:P26 [1,1,1,0,1,0,0,1,1,0,0,1,1,1]=.seq (P26 [1,1,1,0,1,0,0,1,1,0,0,1,1,1,0]) (P26 [1,1,1,0,1,0,0,1,1,0,0,1,1,1,1]):=by kernel_rfl
theorem k26_38:P26 [1,1,1,0,1,0,0,1,1,0,0,1,1,1,0]=.region 10 (O26 [1,1,1,0,1,0,0,1,1,0,0,1,1,1,0]) false:=by kernel_rfl
theorem r26_10 {x7:Option Addr} {M:Mem} {call:CallM} {K:Array Value→Mem→R} :
 opsK Try.prog (fun _=>call) (O26 [1,1,1,0,1,0,0,1,1,0,0,1,1,1,0]) (O26 [1,1,1,0,1,0,0,1,1,0,0,1,1,1,0]).toList 0 #[g0,g1,g2,g3,g4,g5,g6,.pointer x7,g8,g9,gA,gB,gC,gD,gE,gF,gG,gH,gI,gJ,gK,gL,gM,gN,gO,gP,gQ,gR,gS,gT,gU,gV,gW,gX,gY,gZ,hA,hB,hC,hD,hE,hF,hG,hH,hI,hJ,hK,hL,hM] M K=(call 44 #[.pointer x7] M).bind fun r_1=>(asS r_1.1).bind fun s_2=>K #[.slice s_2.1 (s_2.2.1) (s_2.2.2),g1,g2,g3,g4,g5,g6,.pointer x7,g8,g9,gA,gB,gC,gD,gE,gF,gG,gH,gI,gJ,gK,gL,gM,gN,gO,gP,.pointer x7,.slice s_2.1 (s_2.2.1) (s_2.2.2),gS,gT,gU,gV,gW,gX,gY,gZ,hA,hB,hC,hD,hE,hF,hG,hH,hI,hJ,hK,hL,hM] r_1.2:=by kernel_rfl
theorem k26_39:P26 [1,1,1,0,1,0,0,1,1,0,0,1,1,1,1]=.seq (P26 [1,1,1,0,1,0,0,1,1,0,0,1,1,1,1,0]) (P26 [1,1,1,0,1,0,0,1,1,0,0,1,1,1,1,1]):=by kernel_rfl
theorem k26_40:P26 [1,1,1,0,1,0,0,1,1,0,0,1,1,1,1,0]=.seq (P26 [1,1,1,0,1,0,0,1,1,0,0,1,1,1,1,0,0]) (P26 [1,1,1,0,1,0,0,1,1,0,0,1,1,1,1,0,1]):=by kernel_rfl
theorem k26_41:P26 [1,1,1,0,1,0,0,1,1,0,0,1,1,1,1,0,0]=.region 11 (O26 [1,1,1,0,1,0,0,1,1,0,0,1,1,1,1,0,0]) false:=by kernel_rfl
theorem r26_11 {Y0:Option Addr} {l0 y0:Nat} {x8:Int} {M:Mem} {call:CallM} {K:Array Value→Mem→R} :
 opsK Try.prog (fun _=>call) (O26 [1,1,1,0,1,0,0,1,1,0,0,1,1,1,1,0,0]) (O26 [1,1,1,0,1,0,0,1,1,0,0,1,1,1,1,0,0]).toList 0 #[.slice Y0 l0 y0,g1,g2,g3,g4,g5,g6,g7,.int .u32 x8,g9,gA,gB,gC,gD,gE,gF,gG,gH,gI,gJ,gK,gL,gM,gN,gO,gP,gQ,gR,gS,gT,gU,gV,gW,gX,gY,gZ,hA,hB,hC,hD,hE,hF,hG,hH,hI,hJ,hK,hL,hM] M K=(call 45 #[.int .i64 (IntKind.i64.wrap (x8)),.int .i64 0,.int .i64 ((l0:Int))] M).bind fun r_1=>(asB r_1.1).bind fun b_2=>K #[.slice Y0 l0 y0,g1,g2,g3,g4,g5,g6,g7,.int .u32 x8,g9,gA,gB,gC,gD,gE,gF,gG,gH,gI,gJ,gK,gL,gM,gN,gO,gP,gQ,gR,.int .u32 x8,.int .i64 (IntKind.i64.wrap (x8)),.slice Y0 l0 y0,.int .i64 ((l0:Int)),.bool b_2,.bool (!b_2),gY,gZ,hA,hB,hC,hD,hE,hF,hG,hH,hI,hJ,hK,hL,hM] r_1.2:=by kernel_rfl
theorem c26_42:P26 [1,1,1,0,1,0,0,1,1,0,0,1,1,1,1,0,1]=.cond (.tmp 33) (P26 [1,1,1,0,1,0,0,1,1,0,0,1,1,1,1,0,1,0]) (P26 [1,1,1,0,1,0,0,1,1,0,0,1,1,1,1,0,1,1]):=by kernel_rfl
theorem k26_43:P26 [1,1,1,0,1,0,0,1,1,0,0,1,1,1,1,0,1,0]=.seq (P26 [1,1,1,0,1,0,0,1,1,0,0,1,1,1,1,0,1,0,0]) (P26 [1,1,1,0,1,0,0,1,1,0,0,1,1,1,1,0,1,0,1]):=by kernel_rfl
theorem k26_44:P26 [1,1,1,0,1,0,0,1,1,0,0,1,1,1,1,0,1,0,0]=.region 12 (O26 [1,1,1,0,1,0,0,1,1,0,0,1,1,1,1,0,1,0,0]) false:=by kernel_rfl
theorem r26_12 {M:Mem} {call:CallM} {K:Array Value→Mem→R} :
 opsK Try.prog (fun _=>call) (O26 [1,1,1,0,1,0,0,1,1,0,0,1,1,1,1,0,1,0,0]) (O26 [1,1,1,0,1,0,0,1,1,0,0,1,1,1,1,0,1,0,0]).toList 0 #[g0,g1,g2,g3,g4,g5,g6,g7,g8,g9,gA,gB,gC,gD,gE,gF,gG,gH,gI,gJ,gK,gL,gM,gN,gO,gP,gQ,gR,gS,gT,gU,gV,gW,gX,gY,gZ,hA,hB,hC,hD,hE,hF,hG,hH,hI,hJ,hK,hL,hM] M K=K #[g0,g1,g2,g3,.slice none 0 0,.int .i64 3,g6,g7,g8,g9,gA,gB,gC,gD,gE,gF,gG,gH,gI,gJ,gK,gL,gM,gN,gO,gP,gQ,gR,gS,gT,gU,gV,gW,gX,gY,gZ,hA,hB,hC,hD,hE,hF,hG,hH,hI,hJ,hK,hL,hM] M:=by kernel_rfl
theorem k26_45:P26 [1,1,1,0,1,0,0,1,1,0,0,1,1,1,1,0,1,0,1]=.ret:=by kernel_rfl
theorem k26_46:P26 [1,1,1,0,1,0,0,1,1,0,0,1,1,1,1,0,1,1]=.skip:=by kernel_rfl
theorem k26_47:P26 [1,1,1,0,1,0,0,1,1,0,0,1,1,1,1,1]=.seq (P26 [1,1,1,0,1,0,0,1,1,0,0,1,1,1,1,1,0]) (P26 [1,1,1,0,1,0,0,1,1,0,0,1,1,1,1,1,1]):=by kernel_rfl
theorem k26_48:P26 [1,1,1,0,1,0,0,1,1,0,0,1,1,1,1,1,0]=.region 13 (O26 [1,1,1,0,1,0,0,1,1,0,0,1,1,1,1,1,0]) false:=by kernel_rfl
theorem r26_13 {Y0:Option Addr} {l0 y0:Nat} {Y6:Option Addr} {l6 y6:Nat} {x8:Int} {M:Mem} {call:CallM} {K:Array Value→Mem→R} :
 opsK Try.prog (fun _=>call) (O26 [1,1,1,0,1,0,0,1,1,0,0,1,1,1,1,1,0]) (O26 [1,1,1,0,1,0,0,1,1,0,0,1,1,1,1,1,0]).toList 0 #[.slice Y0 l0 y0,g1,g2,g3,g4,g5,.slice Y6 l6 y6,g7,.int .u32 x8,g9,gA,gB,gC,gD,gE,gF,gG,gH,gI,gJ,gK,gL,gM,gN,gO,gP,gQ,gR,gS,gT,gU,gV,gW,gX,gY,gZ,hA,hB,hC,hD,hE,hF,hG,hH,hI,hJ,hK,hL,hM] M K=(sliceP Try.prog 46 (.slice Y0 l0 y0) none (some (.int .u32 x8)) none).bind fun v_1=>(asS v_1).bind fun s_2=>(call 46 #[.slice s_2.1 (s_2.2.1) (s_2.2.2)] M).bind fun r_3=>(asS r_3.1).bind fun s_4=>(appendP Try.prog #[45,45] (.slice Y6 l6 y6) (.slice (some ⟨2*r_3.2.nb.size,0,none⟩) 1 1) (r_3.2.new (.cells #[.slice s_4.1 (s_4.2.1) (s_4.2.2)] 46))).bind fun r_5=>(asS r_5.1).bind fun s_6=>K #[.slice Y0 l0 y0,g1,g2,g3,g4,g5,.slice s_6.1 (s_6.2.1) (s_6.2.2),g7,.int .u32 x8,g9,gA,gB,gC,gD,gE,gF,gG,gH,gI,gJ,gK,gL,gM,gN,gO,gP,gQ,gR,gS,gT,gU,gV,gW,gX,.slice Y6 l6 y6,.slice Y0 l0 y0,.int .u32 x8,.slice s_2.1 (s_2.2.1) (s_2.2.2),.slice s_4.1 (s_4.2.1) (s_4.2.2),.slice (some ⟨2*r_3.2.nb.size,0,none⟩) 1 1,.slice s_6.1 (s_6.2.1) (s_6.2.2),hF,hG,hH,hI,hJ,hK,hL,hM] r_5.2:=by kernel_rfl
theorem k26_49:P26 [1,1,1,0,1,0,0,1,1,0,0,1,1,1,1,1,1]=.region 14 (O26 [1,1,1,0,1,0,0,1,1,0,0,1,1,1,1,1,1]) false:=by kernel_rfl
theorem r26_14 {Y0:Option Addr} {l0 y0:Nat} {x8:Int} {M:Mem} {call:CallM} {K:Array Value→Mem→R} :
 opsK Try.prog (fun _=>call) (O26 [1,1,1,0,1,0,0,1,1,0,0,1,1,1,1,1,1]) (O26 [1,1,1,0,1,0,0,1,1,0,0,1,1,1,1,1,1]).toList 0 #[.slice Y0 l0 y0,g1,g2,g3,g4,g5,g6,g7,.int .u32 x8,g9,gA,gB,gC,gD,gE,gF,gG,gH,gI,gJ,gK,gL,gM,gN,gO,gP,gQ,gR,gS,gT,gU,gV,gW,gX,gY,gZ,hA,hB,hC,hD,hE,hF,hG,hH,hI,hJ,hK,hL,hM] M K=(sliceP Try.prog 46 (.slice Y0 l0 y0) (some (.int .u32 x8)) none none).bind fun v_1=>(asS v_1).bind fun s_2=>K #[.slice s_2.1 (s_2.2.1) (s_2.2.2),g1,g2,g3,g4,g5,g6,g7,.int .u32 x8,g9,gA,gB,gC,gD,gE,gF,gG,gH,gI,gJ,gK,gL,gM,gN,gO,gP,gQ,gR,gS,gT,gU,gV,gW,gX,gY,gZ,hA,hB,hC,hD,hE,.slice Y0 l0 y0,.int .u32 x8,.slice s_2.1 (s_2.2.1) (s_2.2.2),hI,hJ,hK,hL,hM] M:=by kernel_rfl
theorem k26_50:P26 [1,1,1,0,1,0,0,1,1,1]=.region 15 (O26 [1,1,1,0,1,0,0,1,1,1]) false:=by kernel_rfl
theorem r26_15 {x14:Int} {M:Mem} {call:CallM} {K:Array Value→Mem→R} :
 opsK Try.prog (fun _=>call) (O26 [1,1,1,0,1,0,0,1,1,1]) (O26 [1,1,1,0,1,0,0,1,1,1]).toList 0 #[g0,g1,g2,g3,g4,g5,g6,g7,g8,g9,gA,gB,gC,gD,.int .i64 x14,gF,gG,gH,gI,gJ,gK,gL,gM,gN,gO,gP,gQ,gR,gS,gT,gU,gV,gW,gX,gY,gZ,hA,hB,hC,hD,hE,hF,hG,hH,hI,hJ,hK,hL,hM] M K=K #[g0,g1,g2,g3,g4,g5,g6,g7,g8,g9,gA,gB,gC,gD,.int .i64 (IntKind.i64.wrap (x14+1)),gF,gG,gH,gI,gJ,gK,gL,gM,gN,gO,gP,gQ,gR,gS,gT,gU,gV,gW,gX,gY,gZ,hA,hB,hC,hD,hE,hF,hG,hH,.int .i64 (IntKind.i64.wrap (x14+1)),hJ,hK,hL,hM] M:=by kernel_rfl
theorem k26_51:P26 [1,1,1,0,1,0,0,1,0,1]=.exit 0:=by kernel_rfl
theorem k26_52:P26 [1,1,1,1]=.seq (P26 [1,1,1,1,0]) (P26 [1,1,1,1,1]):=by kernel_rfl
theorem k26_53:P26 [1,1,1,1,0]=.seq (P26 [1,1,1,1,0,0]) (P26 [1,1,1,1,0,1]):=by kernel_rfl
theorem k26_54:P26 [1,1,1,1,0,0]=.region 16 (O26 [1,1,1,1,0,0]) false:=by kernel_rfl
theorem r26_16 {Y0:Option Addr} {l0 y0:Nat} {M:Mem} {call:CallM} {K:Array Value→Mem→R} :
 opsK Try.prog (fun _=>call) (O26 [1,1,1,1,0,0]) (O26 [1,1,1,1,0,0]).toList 0 #[.slice Y0 l0 y0,g1,g2,g3,g4,g5,g6,g7,g8,g9,gA,gB,gC,gD,gE,gF,gG,gH,gI,gJ,gK,gL,gM,gN,gO,gP,gQ,gR,gS,gT,gU,gV,gW,gX,gY,gZ,hA,hB,hC,hD,hE,hF,hG,hH,hI,hJ,hK,hL,hM] M K=K #[.slice Y0 l0 y0,g1,g2,g3,g4,g5,g6,g7,g8,g9,gA,gB,gC,gD,gE,gF,gG,gH,gI,gJ,gK,gL,gM,gN,gO,gP,gQ,gR,gS,gT,gU,gV,gW,gX,gY,gZ,hA,hB,hC,hD,hE,hF,hG,hH,hI,.slice Y0 l0 y0,.int .i64 ((l0:Int)),.bool (decide (((l0:Int))>0)),hM] M:=by kernel_rfl
theorem c26_55:P26 [1,1,1,1,0,1]=.cond (.tmp 47) (P26 [1,1,1,1,0,1,0]) (P26 [1,1,1,1,0,1,1]):=by kernel_rfl
theorem k26_56:P26 [1,1,1,1,0,1,0]=.seq (P26 [1,1,1,1,0,1,0,0]) (P26 [1,1,1,1,0,1,0,1]):=by kernel_rfl
theorem k26_57:P26 [1,1,1,1,0,1,0,0]=.region 17 (O26 [1,1,1,1,0,1,0,0]) false:=by kernel_rfl
theorem r26_17 {M:Mem} {call:CallM} {K:Array Value→Mem→R} :
 opsK Try.prog (fun _=>call) (O26 [1,1,1,1,0,1,0,0]) (O26 [1,1,1,1,0,1,0,0]).toList 0 #[g0,g1,g2,g3,g4,g5,g6,g7,g8,g9,gA,gB,gC,gD,gE,gF,gG,gH,gI,gJ,gK,gL,gM,gN,gO,gP,gQ,gR,gS,gT,gU,gV,gW,gX,gY,gZ,hA,hB,hC,hD,hE,hF,hG,hH,hI,hJ,hK,hL,hM] M K=K #[g0,g1,g2,g3,.slice none 0 0,.int .i64 4,g6,g7,g8,g9,gA,gB,gC,gD,gE,gF,gG,gH,gI,gJ,gK,gL,gM,gN,gO,gP,gQ,gR,gS,gT,gU,gV,gW,gX,gY,gZ,hA,hB,hC,hD,hE,hF,hG,hH,hI,hJ,hK,hL,hM] M:=by kernel_rfl
theorem k26_58:P26 [1,1,1,1,0,1,0,1]=.ret:=by kernel_rfl
theorem k26_59:P26 [1,1,1,1,0,1,1]=.skip:=by kernel_rfl
theorem k26_60:P26 [1,1,1,1,1]=.seq (P26 [1,1,1,1,1,0]) (P26 [1,1,1,1,1,1]):=by kernel_rfl
theorem k26_61:P26 [1,1,1,1,1,0]=.region 18 (O26 [1,1,1,1,1,0]) false:=by kernel_rfl
theorem r26_18 {Y6:Option Addr} {l6 y6:Nat} {M:Mem} {call:CallM} {K:Array Value→Mem→R} :
 opsK Try.prog (fun _=>call) (O26 [1,1,1,1,1,0]) (O26 [1,1,1,1,1,0]).toList 0 #[g0,g1,g2,g3,g4,g5,.slice Y6 l6 y6,g7,g8,g9,gA,gB,gC,gD,gE,gF,gG,gH,gI,gJ,gK,gL,gM,gN,gO,gP,gQ,gR,gS,gT,gU,gV,gW,gX,gY,gZ,hA,hB,hC,hD,hE,hF,hG,hH,hI,hJ,hK,hL,hM] M K=K #[g0,g1,g2,g3,.slice Y6 l6 y6,.int .i64 0,.slice Y6 l6 y6,g7,g8,g9,gA,gB,gC,gD,gE,gF,gG,gH,gI,gJ,gK,gL,gM,gN,gO,gP,gQ,gR,gS,gT,gU,gV,gW,gX,gY,gZ,hA,hB,hC,hD,hE,hF,hG,hH,hI,hJ,hK,hL,.slice Y6 l6 y6] M:=by kernel_rfl
theorem k26_62:P26 [1,1,1,1,1,1]=.ret:=by kernel_rfl
noncomputable def S26_1:List Item:=[.code (P26 [1,1,1,0,1,0,0]),.inLoop (P26 [1,1,1,0,1,0,0]),.inBlock 0,.code (P26 [1,1,1,1])]
def A26_1 (Y0:Option Addr) (l0 y0:Nat) (Y6:Option Addr) (l6 y6:Nat) (x13 x14:Int) (M:Mem) (Q:Value→Mem→Prop):Prop:=∀ (g1 g2 g3 g4 g5 g7 g8 g9 gA gB gC gF gG gH gI gJ gK gL gM gN gO gP gQ gR gS gT gU gV gW gX gY gZ hA hB hC hD hE hF hG hH hI hJ hK hL hM:Value),Rn Try.prog Try.f26 S26_1 #[.slice Y0 l0 y0,g1,g2,g3,g4,g5,.slice Y6 l6 y6,g7,g8,g9,gA,gB,gC,.int .i64 x13,.int .i64 x14,gF,gG,gH,gI,gJ,gK,gL,gM,gN,gO,gP,gQ,gR,gS,gT,gU,gV,gW,gX,gY,gZ,hA,hB,hC,hD,hE,hF,hG,hH,hI,hJ,hK,hL,hM] M Q
theorem w26_0 {Y0:Option Addr} {l0 y0:Nat} {x1:Int} {M:Mem} {Q:Value→Mem→Prop} (H :
 Cn Try.prog 35 #[.int .i64 x1,.int .i64 1,.int .i64 16] M fun v1' N1'=>
 ∃b2',asB v1'=some b2'∧
 (((!b2')=true→
 Q (.tuple #[.slice none 0 0,.int .i64 2]) N1')∧
 ((!b2')=false→
 A26_1 Y0 l0 y0 none 0 0 x1 0 N1' Q))):
 Cn Try.prog 26 #[.slice Y0 l0 y0,.int .i64 x1] M Q:=by
  refine Cn.of b26 d26 t26 ?_
  refine Rn.seq k26_0 (Rn.region k26_1 (fun call K=>r26_0) (Rch.leaf (Rn.seq k26_2 (Rn.seq k26_3 (Rn.region k26_4 (fun call K=>r26_1) (Rch.call H fun v1' N1' H=>Rch.ex H fun b2' H=>Rch.leaf ?_))))))
  refine Rn.cnd (v:=!b2') ⟨c26_5,rfl,by kernel_rfl⟩ (fun h=>?_) (fun h=>?_)
  · replace H:=H.1 (h)
    refine Rn.seq k26_6 (Rn.region k26_7 (fun call K=>r26_2) (Rch.leaf ?_))
    exact Rn.ret k26_8 e26 H
  · replace H:=H.2 (h)
    refine Rn.skip k26_10 (Rn.seq k26_11 (Rn.region k26_12 (fun call K=>r26_3) (Rch.leaf (Rn.seq k26_13 (Rn.seq k26_14 (Rn.region k26_15 (fun call K=>r26_4) (Rch.leaf (Rn.block k26_16 (Rn.loop k26_17 ?_)))))))))
    exact H ..
theorem w26_1 {Y0:Option Addr} {l0 y0:Nat} {Y6:Option Addr} {l6 y6:Nat} {x13 x14:Int} {M:Mem} {Q:Value→Mem→Prop} (H :
 ((x14<x13→
 Cn Try.prog 42 #[.slice Y0 l0 y0] M fun v3' N3'=>
 ∃p4',asP v3'=some p4'∧
 Cn Try.prog 43 #[.pointer p4'] N3' fun v5' N5'=>
 ∃cs6',asU 2 v5'=some cs6'∧
 ∃x7',asI .u32 (cs6'.getD 0 undef)=some x7'∧
 ∃x8',asI .i64 (cs6'.getD 1 undef)=some x8'∧
 ((x8'≠0→
 Q (.tuple #[.slice none 0 0,.int .i64 (x8')]) N5')∧
 (x8'=0→
 Cn Try.prog 44 #[.pointer p4'] N5' fun v9' N9'=>
 ∃s10',asS v9'=some s10'∧
 Cn Try.prog 45 #[.int .i64 (IntKind.i64.wrap (x7')),.int .i64 0,.int .i64 ((s10'.2.1:Int))] N9' fun v11' N11'=>
 ∃b12',asB v11'=some b12'∧
 (((!b12')=true→
 Q (.tuple #[.slice none 0 0,.int .i64 3]) N11')∧
 ((!b12')=false→
 ∃v13',sliceP Try.prog 46 (.slice s10'.1 s10'.2.1 s10'.2.2) none (some (.int .u32 x7')) none=some v13'∧
 ∃s14',asS v13'=some s14'∧
 Cn Try.prog 46 #[.slice s14'.1 (s14'.2.1) (s14'.2.2)] N11' fun v15' N15'=>
 ∃s16',asS v15'=some s16'∧
 ∃r17',appendP Try.prog #[45,45] (.slice Y6 l6 y6) (.slice (some ⟨2*N15'.nb.size,0,none⟩) 1 1) (N15'.new (.cells #[.slice s16'.1 (s16'.2.1) (s16'.2.2)] 46))=some r17'∧
 ∃s18',asS r17'.1=some s18'∧
 ∃v19',sliceP Try.prog 46 (.slice s10'.1 s10'.2.1 s10'.2.2) (some (.int .u32 x7')) none none=some v19'∧
 ∃s20',asS v19'=some s20'∧
 A26_1 s20'.1 s20'.2.1 s20'.2.2 s18'.1 s18'.2.1 s18'.2.2 x13 (IntKind.i64.wrap (x14+1)) r17'.2 Q)))))∧
 (¬(x14<x13)→
 ((((l0:Int))>0→
 Q (.tuple #[.slice none 0 0,.int .i64 4]) M)∧
 (¬(((l0:Int))>0)→
 Q (.tuple #[.slice Y6 l6 y6,.int .i64 0]) M))))):
 A26_1 Y0 l0 y0 Y6 l6 y6 x13 x14 M Q:=by
  iterate 45 intro _
  refine Rn.seq k26_18 (Rn.region k26_19 (fun call K=>r26_5) (Rch.leaf (Rn.seq k26_20 ?_)))
  refine Rn.cnd (v:=decide (x14<x13)) ⟨c26_21,rfl,by kernel_rfl⟩ (fun h=>?_) (fun h=>?_)
  · replace H:=H.1 (of_decide_eq_true h)
    refine Rn.skip k26_22 (Rn.seq k26_23 (Rn.block k26_24 (Rn.seq k26_25 (Rn.region k26_26 (fun call K=>r26_6) (Rch.call H fun v3' N3' H=>Rch.ex H fun p4' H=>Rch.leaf (Rn.seq k26_27 (Rn.region k26_28 (fun call K=>r26_7) (Rch.call H fun v5' N5' H=>Rch.ex H fun cs6' H=>?_))))))))
    refine Rch.ex H fun x7' H=>Rch.ex H fun x8' H=>Rch.leaf (Rn.seq k26_29 (Rn.seq k26_30 (Rn.region k26_31 (fun call K=>r26_8) (Rch.leaf ?_))))
    refine Rn.cnd (v:=x8' != 0) ⟨c26_32,rfl,by kernel_rfl⟩ (fun h=>?_) (fun h=>?_)
    · replace H:=H.1 (ne_of_bneT h)
      refine Rn.seq k26_33 (Rn.region k26_34 (fun call K=>r26_9) (Rch.leaf ?_))
      exact Rn.ret k26_35 e26 H
    · replace H:=H.2 (eq_of_bneF h)
      refine Rn.skip k26_36 (Rn.seq k26_37 (Rn.region k26_38 (fun call K=>r26_10) (Rch.call H fun v9' N9' H=>Rch.ex H fun s10' H=>Rch.leaf (Rn.seq k26_39 (Rn.seq k26_40 (Rn.region k26_41 (fun call K=>r26_11) (Rch.call H fun v11' N11' H=>Rch.ex H fun b12' H=>Rch.leaf ?_)))))))
      refine Rn.cnd (v:=!b12') ⟨c26_42,rfl,by kernel_rfl⟩ (fun h=>?_) (fun h=>?_)
      · replace H:=H.1 (h)
        refine Rn.seq k26_43 (Rn.region k26_44 (fun call K=>r26_12) (Rch.leaf ?_))
        exact Rn.ret k26_45 e26 H
      · replace H:=H.2 (h)
        refine Rn.skip k26_46 (Rn.seq k26_47 (Rn.region k26_48 (fun call K=>r26_13) (Rch.ex H fun v13' H=>Rch.ex H fun s14' H=>Rch.call H fun v15' N15' H=>Rch.ex H fun s16' H=>Rch.ex H fun r17' H=>Rch.ex H fun s18' H=>Rch.leaf (Rn.region k26_49 (fun call K=>r26_14) (Rch.ex H fun v19' H=>?_)))))
        refine Rch.ex H fun s20' H=>Rch.leaf (Rn.blk (Rn.region k26_50 (fun call K=>r26_15) (Rch.leaf (Rn.lp ?_))))
        exact H ..
  · replace H:=H.2 (of_decide_eq_false h)
    refine Rn.exit k26_51 rfl (Rn.seq k26_52 (Rn.seq k26_53 (Rn.region k26_54 (fun call K=>r26_16) (Rch.leaf ?_))))
    refine Rn.cnd (v:=decide (((l0:Int))>0)) ⟨c26_55,rfl,by kernel_rfl⟩ (fun h=>?_) (fun h=>?_)
    · replace H:=H.1 (of_decide_eq_true h)
      refine Rn.seq k26_56 (Rn.region k26_57 (fun call K=>r26_17) (Rch.leaf ?_))
      exact Rn.ret k26_58 e26 H
    · replace H:=H.2 (of_decide_eq_false h)
      refine Rn.skip k26_59 (Rn.seq k26_60 (Rn.region k26_61 (fun call K=>r26_18) (Rch.leaf ?_)))
      exact Rn.ret k26_62 e26 H
noncomputable abbrev P27 (p:List Nat):Code:=subC (codeOf Try.f27) p
noncomputable abbrev O27 (p:List Nat):Array Oper:=opsOf (subC (codeOf Try.f27) p)
theorem b27:Try.prog.funcs[27]?=some Try.f27∧(Orc.tab Try.prog).lookup 27=none:=⟨by kernel_rfl,by kernel_rfl⟩
theorem d27:Try.f27.body=some (P27 []):=by kernel_rfl
theorem t27 {Y0:Option Addr} {l0 y0:Nat} {x1:Int}:#[.slice Y0 l0 y0,.int .i64 x1] ++ Array.replicate (Try.f27.ntmps-(#[.slice Y0 l0 y0,.int .i64 x1]:Array Value).size) undef=#[.slice Y0 l0 y0,.int .i64 x1,undef,undef,undef,undef,undef,undef,undef,undef,undef,undef,undef,undef,undef,undef,undef,undef,undef,undef,undef,undef,undef,undef,undef,undef,undef,undef,undef,undef,undef,undef,undef,undef,undef,undef,undef,undef,undef,undef,undef,undef,undef,undef,undef,undef,undef,undef,undef,undef,undef,undef,undef,undef,undef,undef,undef]:=by kernel_rfl
theorem k27_0:P27 []=.seq (P27 [0]) (P27 [1]):=by kernel_rfl
theorem k27_1:P27 [0]=.region 0 (O27 [0]) false:=by kernel_rfl
theorem r27_0 {M:Mem} {call:CallM} {K:Array Value→Mem→R} :
 opsK Try.prog (fun _=>call) (O27 [0]) (O27 [0]).toList 0 #[g0,g1,g2,g3,g4,g5,g6,g7,g8,g9,gA,gB,gC,gD,gE,gF,gG,gH,gI,gJ,gK,gL,gM,gN,gO,gP,gQ,gR,gS,gT,gU,gV,gW,gX,gY,gZ,hA,hB,hC,hD,hE,hF,hG,hH,hI,hJ,hK,hL,hM,hN,hO,hP,hQ,hR,hS,hT,hU] M K=K #[g0,g1,g2,g3,.slice none 0 0,.int .i64 0,g6,g7,g8,g9,gA,gB,gC,gD,gE,gF,gG,gH,gI,gJ,gK,gL,gM,gN,gO,gP,gQ,gR,gS,gT,gU,gV,gW,gX,gY,gZ,hA,hB,hC,hD,hE,hF,hG,hH,hI,hJ,hK,hL,hM,hN,hO,hP,hQ,hR,hS,hT,hU] M:=by kernel_rfl
theorem k27_2:P27 [1]=.seq (P27 [1,0]) (P27 [1,1]):=by kernel_rfl
theorem k27_3:P27 [1,0]=.seq (P27 [1,0,0]) (P27 [1,0,1]):=by kernel_rfl
theorem k27_4:P27 [1,0,0]=.region 1 (O27 [1,0,0]) false:=by kernel_rfl
theorem r27_1 {x1:Int} {M:Mem} {call:CallM} {K:Array Value→Mem→R} :
 opsK Try.prog (fun _=>call) (O27 [1,0,0]) (O27 [1,0,0]).toList 0 #[g0,.int .i64 x1,g2,g3,g4,g5,g6,g7,g8,g9,gA,gB,gC,gD,gE,gF,gG,gH,gI,gJ,gK,gL,gM,gN,gO,gP,gQ,gR,gS,gT,gU,gV,gW,gX,gY,gZ,hA,hB,hC,hD,hE,hF,hG,hH,hI,hJ,hK,hL,hM,hN,hO,hP,hQ,hR,hS,hT,hU] M K=withK (fun w14 w15 w16 w17 M=>K #[g0,.int .i64 x1,g2,g3,g4,g5,g6,g7,g8,g9,gA,gB,.int .i64 x1,.bool (decide (x1<1)),w14,w15,w16,w17,gI,gJ,gK,gL,gM,gN,gO,gP,gQ,gR,gS,gT,gU,gV,gW,gX,gY,gZ,hA,hB,hC,hD,hE,hF,hG,hH,hI,hJ,hK,hL,hM,hN,hO,hP,hQ,hR,hS,hT,hU] M) fun k=>cond (decide (x1<1)) (k (.bool true) undef undef (.bool true) M) (k (.bool false) (.int .i64 x1) (.bool (decide (x1>16))) (.bool (decide (x1>16))) M):=by kernel_rfl
theorem c27_5:P27 [1,0,1]=.cond (.tmp 17) (P27 [1,0,1,0]) (P27 [1,0,1,1]):=by kernel_rfl
theorem k27_6:P27 [1,0,1,0]=.seq (P27 [1,0,1,0,0]) (P27 [1,0,1,0,1]):=by kernel_rfl
theorem k27_7:P27 [1,0,1,0,0]=.region 2 (O27 [1,0,1,0,0]) false:=by kernel_rfl
theorem r27_2 {M:Mem} {call:CallM} {K:Array Value→Mem→R} :
 opsK Try.prog (fun _=>call) (O27 [1,0,1,0,0]) (O27 [1,0,1,0,0]).toList 0 #[g0,g1,g2,g3,g4,g5,g6,g7,g8,g9,gA,gB,gC,gD,gE,gF,gG,gH,gI,gJ,gK,gL,gM,gN,gO,gP,gQ,gR,gS,gT,gU,gV,gW,gX,gY,gZ,hA,hB,hC,hD,hE,hF,hG,hH,hI,hJ,hK,hL,hM,hN,hO,hP,hQ,hR,hS,hT,hU] M K=K #[g0,g1,g2,g3,.slice none 0 0,.int .i64 2,g6,g7,g8,g9,gA,gB,gC,gD,gE,gF,gG,gH,gI,gJ,gK,gL,gM,gN,gO,gP,gQ,gR,gS,gT,gU,gV,gW,gX,gY,gZ,hA,hB,hC,hD,hE,hF,hG,hH,hI,hJ,hK,hL,hM,hN,hO,hP,hQ,hR,hS,hT,hU] M:=by kernel_rfl
theorem k27_8:P27 [1,0,1,0,1]=.ret:=by kernel_rfl
theorem e27 {M:Mem}:finish Try.prog Try.f27 #[g0,g1,g2,g3,g4,g5,g6,g7,g8,g9,gA,gB,gC,gD,gE,gF,gG,gH,gI,gJ,gK,gL,gM,gN,gO,gP,gQ,gR,gS,gT,gU,gV,gW,gX,gY,gZ,hA,hB,hC,hD,hE,hF,hG,hH,hI,hJ,hK,hL,hM,hN,hO,hP,hQ,hR,hS,hT,hU] M=some (.tuple #[g4,g5],M):=by kernel_rfl
theorem k27_10:P27 [1,0,1,1]=.skip:=by kernel_rfl
theorem k27_11:P27 [1,1]=.seq (P27 [1,1,0]) (P27 [1,1,1]):=by kernel_rfl
theorem k27_12:P27 [1,1,0]=.region 3 (O27 [1,1,0]) false:=by kernel_rfl
theorem r27_3 {M:Mem} {call:CallM} {K:Array Value→Mem→R} :
 opsK Try.prog (fun _=>call) (O27 [1,1,0]) (O27 [1,1,0]).toList 0 #[g0,g1,g2,g3,g4,g5,g6,g7,g8,g9,gA,gB,gC,gD,gE,gF,gG,gH,gI,gJ,gK,gL,gM,gN,gO,gP,gQ,gR,gS,gT,gU,gV,gW,gX,gY,gZ,hA,hB,hC,hD,hE,hF,hG,hH,hI,hJ,hK,hL,hM,hN,hO,hP,hQ,hR,hS,hT,hU] M K=K #[g0,g1,g2,g3,g4,g5,.slice none 0 0,g7,g8,g9,gA,gB,gC,gD,gE,gF,gG,gH,gI,gJ,gK,gL,gM,gN,gO,gP,gQ,gR,gS,gT,gU,gV,gW,gX,gY,gZ,hA,hB,hC,hD,hE,hF,hG,hH,hI,hJ,hK,hL,hM,hN,hO,hP,hQ,hR,hS,hT,hU] M:=by kernel_rfl
theorem k27_13:P27 [1,1,1]=.seq (P27 [1,1,1,0]) (P27 [1,1,1,1]):=by kernel_rfl
theorem k27_14:P27 [1,1,1,0]=.region 4 (O27 [1,1,1,0]) false:=by kernel_rfl
theorem r27_4 {Y0:Option Addr} {l0 y0:Nat} {M:Mem} {call:CallM} {K:Array Value→Mem→R} :
 opsK Try.prog (fun _=>call) (O27 [1,1,1,0]) (O27 [1,1,1,0]).toList 0 #[.slice Y0 l0 y0,g1,g2,g3,g4,g5,g6,g7,g8,g9,gA,gB,gC,gD,gE,gF,gG,gH,gI,gJ,gK,gL,gM,gN,gO,gP,gQ,gR,gS,gT,gU,gV,gW,gX,gY,gZ,hA,hB,hC,hD,hE,hF,hG,hH,hI,hJ,hK,hL,hM,hN,hO,hP,hQ,hR,hS,hT,hU] M K=(call 21 #[.slice Y0 l0 y0] M).bind fun r_1=>(asS r_1.1).bind fun s_2=>K #[.slice Y0 l0 y0,g1,g2,g3,g4,g5,g6,.slice s_2.1 (s_2.2.1) (s_2.2.2),g8,g9,gA,gB,gC,gD,gE,gF,gG,gH,.slice Y0 l0 y0,.slice s_2.1 (s_2.2.1) (s_2.2.2),gK,gL,gM,gN,gO,gP,gQ,gR,gS,gT,gU,gV,gW,gX,gY,gZ,hA,hB,hC,hD,hE,hF,hG,hH,hI,hJ,hK,hL,hM,hN,hO,hP,hQ,hR,hS,hT,hU] r_1.2:=by kernel_rfl
theorem k27_15:P27 [1,1,1,1]=.seq (P27 [1,1,1,1,0]) (P27 [1,1,1,1,1]):=by kernel_rfl
theorem k27_16:P27 [1,1,1,1,0]=.seq (P27 [1,1,1,1,0,0]) (P27 [1,1,1,1,0,1]):=by kernel_rfl
theorem k27_17:P27 [1,1,1,1,0,0]=.region 5 (O27 [1,1,1,1,0,0]) false:=by kernel_rfl
theorem r27_5 {M:Mem} {call:CallM} {K:Array Value→Mem→R} :
 opsK Try.prog (fun _=>call) (O27 [1,1,1,1,0,0]) (O27 [1,1,1,1,0,0]).toList 0 #[g0,g1,g2,g3,g4,g5,g6,g7,g8,g9,gA,gB,gC,gD,gE,gF,gG,gH,gI,gJ,gK,gL,gM,gN,gO,gP,gQ,gR,gS,gT,gU,gV,gW,gX,gY,gZ,hA,hB,hC,hD,hE,hF,hG,hH,hI,hJ,hK,hL,hM,hN,hO,hP,hQ,hR,hS,hT,hU] M K=K #[g0,g1,g2,g3,g4,g5,g6,g7,.int .i64 0,g9,gA,gB,gC,gD,gE,gF,gG,gH,gI,gJ,gK,gL,gM,gN,gO,gP,gQ,gR,gS,gT,gU,gV,gW,gX,gY,gZ,hA,hB,hC,hD,hE,hF,hG,hH,hI,hJ,hK,hL,hM,hN,hO,hP,hQ,hR,hS,hT,hU] M:=by kernel_rfl
theorem k27_18:P27 [1,1,1,1,0,1]=.block 0 (P27 [1,1,1,1,0,1,0]):=by kernel_rfl
theorem k27_19:P27 [1,1,1,1,0,1,0]=.loop (P27 [1,1,1,1,0,1,0,0]):=by kernel_rfl
theorem k27_20:P27 [1,1,1,1,0,1,0,0]=.seq (P27 [1,1,1,1,0,1,0,0,0]) (P27 [1,1,1,1,0,1,0,0,1]):=by kernel_rfl
theorem k27_21:P27 [1,1,1,1,0,1,0,0,0]=.seq (P27 [1,1,1,1,0,1,0,0,0,0]) (P27 [1,1,1,1,0,1,0,0,0,1]):=by kernel_rfl
theorem k27_22:P27 [1,1,1,1,0,1,0,0,0,0]=.region 6 (O27 [1,1,1,1,0,1,0,0,0,0]) false:=by kernel_rfl
theorem r27_6 {x1 x8:Int} {M:Mem} {call:CallM} {K:Array Value→Mem→R} :
 opsK Try.prog (fun _=>call) (O27 [1,1,1,1,0,1,0,0,0,0]) (O27 [1,1,1,1,0,1,0,0,0,0]).toList 0 #[g0,.int .i64 x1,g2,g3,g4,g5,g6,g7,.int .i64 x8,g9,gA,gB,gC,gD,gE,gF,gG,gH,gI,gJ,gK,gL,gM,gN,gO,gP,gQ,gR,gS,gT,gU,gV,gW,gX,gY,gZ,hA,hB,hC,hD,hE,hF,hG,hH,hI,hJ,hK,hL,hM,hN,hO,hP,hQ,hR,hS,hT,hU] M K=K #[g0,.int .i64 x1,g2,g3,g4,g5,g6,g7,.int .i64 x8,g9,gA,gB,gC,gD,gE,gF,gG,gH,gI,gJ,.int .i64 x8,.int .i64 x1,.bool (decide (x8<x1)),gN,gO,gP,gQ,gR,gS,gT,gU,gV,gW,gX,gY,gZ,hA,hB,hC,hD,hE,hF,hG,hH,hI,hJ,hK,hL,hM,hN,hO,hP,hQ,hR,hS,hT,hU] M:=by kernel_rfl
theorem c27_23:P27 [1,1,1,1,0,1,0,0,0,1]=.cond (.tmp 22) (P27 [1,1,1,1,0,1,0,0,0,1,0]) (P27 [1,1,1,1,0,1,0,0,0,1,1]):=by kernel_rfl
theorem k27_24:P27 [1,1,1,1,0,1,0,0,0,1,0]=.skip:=by kernel_rfl
theorem k27_25:P27 [1,1,1,1,0,1,0,0,1]=.seq (P27 [1,1,1,1,0,1,0,0,1,0]) (P27 [1,1,1,1,0,1,0,0,1,1]):=by kernel_rfl
theorem k27_26:P27 [1,1,1,1,0,1,0,0,1,0]=.block 1 (P27 [1,1,1,1,0,1,0,0,1,0,0]):=by kernel_rfl
theorem k27_27:P27 [1,1,1,1,0,1,0,0,1,0,0]=.seq (P27 [1,1,1,1,0,1,0,0,1,0,0,0]) (P27 [1,1,1,1,0,1,0,0,1,0,0,1]):=by kernel_rfl
theorem k27_28:P27 [1,1,1,1,0,1,0,0,1,0,0,0]=.region 8 (O27 [1,1,1,1,0,1,0,0,1,0,0,0]) false:=by kernel_rfl
theorem r27_8 {Y7:Option Addr} {l7 y7:Nat} {M:Mem} {call:CallM} {K:Array Value→Mem→R} :
 opsK Try.prog (fun _=>call) (O27 [1,1,1,1,0,1,0,0,1,0,0,0]) (O27 [1,1,1,1,0,1,0,0,1,0,0,0]).toList 0 #[g0,g1,g2,g3,g4,g5,g6,.slice Y7 l7 y7,g8,g9,gA,gB,gC,gD,gE,gF,gG,gH,gI,gJ,gK,gL,gM,gN,gO,gP,gQ,gR,gS,gT,gU,gV,gW,gX,gY,gZ,hA,hB,hC,hD,hE,hF,hG,hH,hI,hJ,hK,hL,hM,hN,hO,hP,hQ,hR,hS,hT,hU] M K=(call 47 #[.slice Y7 l7 y7] M).bind fun r_1=>(asP r_1.1).bind fun p_2=>K #[g0,g1,g2,g3,g4,g5,g6,.slice Y7 l7 y7,g8,.pointer p_2,gA,gB,gC,gD,gE,gF,gG,gH,gI,gJ,gK,gL,gM,gN,gO,.slice Y7 l7 y7,.pointer p_2,gR,gS,gT,gU,gV,gW,gX,gY,gZ,hA,hB,hC,hD,hE,hF,hG,hH,hI,hJ,hK,hL,hM,hN,hO,hP,hQ,hR,hS,hT,hU] r_1.2:=by kernel_rfl
theorem k27_29:P27 [1,1,1,1,0,1,0,0,1,0,0,1]=.seq (P27 [1,1,1,1,0,1,0,0,1,0,0,1,0]) (P27 [1,1,1,1,0,1,0,0,1,0,0,1,1]):=by kernel_rfl
theorem k27_30:P27 [1,1,1,1,0,1,0,0,1,0,0,1,0]=.region 9 (O27 [1,1,1,1,0,1,0,0,1,0,0,1,0]) false:=by kernel_rfl
theorem r27_9 {x9:Option Addr} {M:Mem} {call:CallM} {K:Array Value→Mem→R} :
 opsK Try.prog (fun _=>call) (O27 [1,1,1,1,0,1,0,0,1,0,0,1,0]) (O27 [1,1,1,1,0,1,0,0,1,0,0,1,0]).toList 0 #[g0,g1,g2,g3,g4,g5,g6,g7,g8,.pointer x9,gA,gB,gC,gD,gE,gF,gG,gH,gI,gJ,gK,gL,gM,gN,gO,gP,gQ,gR,gS,gT,gU,gV,gW,gX,gY,gZ,hA,hB,hC,hD,hE,hF,hG,hH,hI,hJ,hK,hL,hM,hN,hO,hP,hQ,hR,hS,hT,hU] M K=(call 48 #[.pointer x9] M).bind fun r_1=>(asU 2 r_1.1).bind fun cs_2=>(asI .u32 (cs_2.getD 0 undef)).bind fun x_3=>(asI .i64 (cs_2.getD 1 undef)).bind fun x_4=>K #[g0,g1,g2,g3,g4,g5,g6,g7,g8,.pointer x9,.int .u32 x_3,.int .i64 x_4,gC,gD,gE,gF,gG,gH,gI,gJ,gK,gL,gM,gN,gO,gP,gQ,.tuple #[.int .u32 x_3,.int .i64 x_4],.pointer x9,.tuple #[.int .u32 x_3,.int .i64 x_4],.int .u32 x_3,.int .i64 x_4,gW,gX,gY,gZ,hA,hB,hC,hD,hE,hF,hG,hH,hI,hJ,hK,hL,hM,hN,hO,hP,hQ,hR,hS,hT,hU] r_1.2:=by kernel_rfl
theorem k27_31:P27 [1,1,1,1,0,1,0,0,1,0,0,1,1]=.seq (P27 [1,1,1,1,0,1,0,0,1,0,0,1,1,0]) (P27 [1,1,1,1,0,1,0,0,1,0,0,1,1,1]):=by kernel_rfl
theorem k27_32:P27 [1,1,1,1,0,1,0,0,1,0,0,1,1,0]=.seq (P27 [1,1,1,1,0,1,0,0,1,0,0,1,1,0,0]) (P27 [1,1,1,1,0,1,0,0,1,0,0,1,1,0,1]):=by kernel_rfl
theorem k27_33:P27 [1,1,1,1,0,1,0,0,1,0,0,1,1,0,0]=.region 10 (O27 [1,1,1,1,0,1,0,0,1,0,0,1,1,0,0]) false:=by kernel_rfl
theorem r27_10 {x11:Int} {M:Mem} {call:CallM} {K:Array Value→Mem→R} :
 opsK Try.prog (fun _=>call) (O27 [1,1,1,1,0,1,0,0,1,0,0,1,1,0,0]) (O27 [1,1,1,1,0,1,0,0,1,0,0,1,1,0,0]).toList 0 #[g0,g1,g2,g3,g4,g5,g6,g7,g8,g9,gA,.int .i64 x11,gC,gD,gE,gF,gG,gH,gI,gJ,gK,gL,gM,gN,gO,gP,gQ,gR,gS,gT,gU,gV,gW,gX,gY,gZ,hA,hB,hC,hD,hE,hF,hG,hH,hI,hJ,hK,hL,hM,hN,hO,hP,hQ,hR,hS,hT,hU] M K=K #[g0,g1,g2,g3,g4,g5,g6,g7,g8,g9,gA,.int .i64 x11,gC,gD,gE,gF,gG,gH,gI,gJ,gK,gL,gM,gN,gO,gP,gQ,gR,gS,gT,gU,gV,.int .i64 x11,.bool (x11 != 0),gY,gZ,hA,hB,hC,hD,hE,hF,hG,hH,hI,hJ,hK,hL,hM,hN,hO,hP,hQ,hR,hS,hT,hU] M:=by kernel_rfl
theorem c27_34:P27 [1,1,1,1,0,1,0,0,1,0,0,1,1,0,1]=.cond (.tmp 33) (P27 [1,1,1,1,0,1,0,0,1,0,0,1,1,0,1,0]) (P27 [1,1,1,1,0,1,0,0,1,0,0,1,1,0,1,1]):=by kernel_rfl
theorem k27_35:P27 [1,1,1,1,0,1,0,0,1,0,0,1,1,0,1,0]=.seq (P27 [1,1,1,1,0,1,0,0,1,0,0,1,1,0,1,0,0]) (P27 [1,1,1,1,0,1,0,0,1,0,0,1,1,0,1,0,1]):=by kernel_rfl
theorem k27_36:P27 [1,1,1,1,0,1,0,0,1,0,0,1,1,0,1,0,0]=.region 11 (O27 [1,1,1,1,0,1,0,0,1,0,0,1,1,0,1,0,0]) false:=by kernel_rfl
theorem r27_11 {x11:Int} {M:Mem} {call:CallM} {K:Array Value→Mem→R} :
 opsK Try.prog (fun _=>call) (O27 [1,1,1,1,0,1,0,0,1,0,0,1,1,0,1,0,0]) (O27 [1,1,1,1,0,1,0,0,1,0,0,1,1,0,1,0,0]).toList 0 #[g0,g1,g2,g3,g4,g5,g6,g7,g8,g9,gA,.int .i64 x11,gC,gD,gE,gF,gG,gH,gI,gJ,gK,gL,gM,gN,gO,gP,gQ,gR,gS,gT,gU,gV,gW,gX,gY,gZ,hA,hB,hC,hD,hE,hF,hG,hH,hI,hJ,hK,hL,hM,hN,hO,hP,hQ,hR,hS,hT,hU] M K=K #[g0,g1,g2,g3,.slice none 0 0,.int .i64 x11,g6,g7,g8,g9,gA,.int .i64 x11,gC,gD,gE,gF,gG,gH,gI,gJ,gK,gL,gM,gN,gO,gP,gQ,gR,gS,gT,gU,gV,gW,gX,.int .i64 x11,gZ,hA,hB,hC,hD,hE,hF,hG,hH,hI,hJ,hK,hL,hM,hN,hO,hP,hQ,hR,hS,hT,hU] M:=by kernel_rfl
theorem k27_37:P27 [1,1,1,1,0,1,0,0,1,0,0,1,1,0,1,0,1]=.ret:=by kernel_rfl
theorem k27_38:P27 [1,1,1,1,0,1,0,0,1,0,0,1,1,0,1,1]=.skip:=by kernel_rfl
theorem k27_39:P27 [1,1,1,1,0,1,0,0,1,0,0,1,1,1]=.seq (P27 [1,1,1,1,0,1,0,0,1,0,0,1,1,1,0]) (P27 [1,1,1,1,0,1,0,0,1,0,0,1,1,1,1]):=by kernel_rfl
theorem k27_40:P27 [1,1,1,1,0,1,0,0,1,0,0,1,1,1,0]=.region 12 (O27 [1,1,1,1,0,1,0,0,1,0,0,1,1,1,0]) false:=by kernel_rfl
theorem r27_12 {x9:Option Addr} {M:Mem} {call:CallM} {K:Array Value→Mem→R} :
 opsK Try.prog (fun _=>call) (O27 [1,1,1,1,0,1,0,0,1,0,0,1,1,1,0]) (O27 [1,1,1,1,0,1,0,0,1,0,0,1,1,1,0]).toList 0 #[g0,g1,g2,g3,g4,g5,g6,g7,g8,.pointer x9,gA,gB,gC,gD,gE,gF,gG,gH,gI,gJ,gK,gL,gM,gN,gO,gP,gQ,gR,gS,gT,gU,gV,gW,gX,gY,gZ,hA,hB,hC,hD,hE,hF,hG,hH,hI,hJ,hK,hL,hM,hN,hO,hP,hQ,hR,hS,hT,hU] M K=(call 49 #[.pointer x9] M).bind fun r_1=>(asS r_1.1).bind fun s_2=>K #[g0,g1,g2,g3,g4,g5,g6,.slice s_2.1 (s_2.2.1) (s_2.2.2),g8,.pointer x9,gA,gB,gC,gD,gE,gF,gG,gH,gI,gJ,gK,gL,gM,gN,gO,gP,gQ,gR,gS,gT,gU,gV,gW,gX,gY,.pointer x9,.slice s_2.1 (s_2.2.1) (s_2.2.2),hB,hC,hD,hE,hF,hG,hH,hI,hJ,hK,hL,hM,hN,hO,hP,hQ,hR,hS,hT,hU] r_1.2:=by kernel_rfl
theorem k27_41:P27 [1,1,1,1,0,1,0,0,1,0,0,1,1,1,1]=.seq (P27 [1,1,1,1,0,1,0,0,1,0,0,1,1,1,1,0]) (P27 [1,1,1,1,0,1,0,0,1,0,0,1,1,1,1,1]):=by kernel_rfl
theorem k27_42:P27 [1,1,1,1,0,1,0,0,1,0,0,1,1,1,1,0]=.seq (P27 [1,1,1,1,0,1,0,0,1,0,0,1,1,1,1,0,0]) (P27 [1,1,1,1,0,1,0,0,1,0,0,1,1,1,1,0,1]):=by kernel_rfl
theorem k27_43:P27 [1,1,1,1,0,1,0,0,1,0,0,1,1,1,1,0,0]=.region 13 (O27 [1,1,1,1,0,1,0,0,1,0,0,1,1,1,1,0,0]) false:=by kernel_rfl
theorem r27_13 {Y7:Option Addr} {l7 y7:Nat} {x10:Int} {M:Mem} {call:CallM} {K:Array Value→Mem→R} :
 opsK Try.prog (fun _=>call) (O27 [1,1,1,1,0,1,0,0,1,0,0,1,1,1,1,0,0]) (O27 [1,1,1,1,0,1,0,0,1,0,0,1,1,1,1,0,0]).toList 0 #[g0,g1,g2,g3,g4,g5,g6,.slice Y7 l7 y7,g8,g9,.int .u32 x10,gB,gC,gD,gE,gF,gG,gH,gI,gJ,gK,gL,gM,gN,gO,gP,gQ,gR,gS,gT,gU,gV,gW,gX,gY,gZ,hA,hB,hC,hD,hE,hF,hG,hH,hI,hJ,hK,hL,hM,hN,hO,hP,hQ,hR,hS,hT,hU] M K=K #[g0,g1,g2,g3,g4,g5,g6,.slice Y7 l7 y7,g8,g9,.int .u32 x10,gB,gC,gD,gE,gF,gG,gH,gI,gJ,gK,gL,gM,gN,gO,gP,gQ,gR,gS,gT,gU,gV,gW,gX,gY,gZ,hA,.int .u32 x10,.int .u64 (IntKind.u64.wrap (x10)),.slice Y7 l7 y7,.int .i64 ((l7:Int)),.int .u64 (IntKind.u64.wrap ((l7:Int))),.bool (decide ((IntKind.u64.wrap (x10))>(IntKind.u64.wrap ((l7:Int))))),hH,hI,hJ,hK,hL,hM,hN,hO,hP,hQ,hR,hS,hT,hU] M:=by kernel_rfl
theorem c27_44:P27 [1,1,1,1,0,1,0,0,1,0,0,1,1,1,1,0,1]=.cond (.tmp 42) (P27 [1,1,1,1,0,1,0,0,1,0,0,1,1,1,1,0,1,0]) (P27 [1,1,1,1,0,1,0,0,1,0,0,1,1,1,1,0,1,1]):=by kernel_rfl
theorem k27_45:P27 [1,1,1,1,0,1,0,0,1,0,0,1,1,1,1,0,1,0]=.seq (P27 [1,1,1,1,0,1,0,0,1,0,0,1,1,1,1,0,1,0,0]) (P27 [1,1,1,1,0,1,0,0,1,0,0,1,1,1,1,0,1,0,1]):=by kernel_rfl
theorem k27_46:P27 [1,1,1,1,0,1,0,0,1,0,0,1,1,1,1,0,1,0,0]=.region 14 (O27 [1,1,1,1,0,1,0,0,1,0,0,1,1,1,1,0,1,0,0]) false:=by kernel_rfl
theorem r27_14 {M:Mem} {call:CallM} {K:Array Value→Mem→R} :
 opsK Try.prog (fun _=>call) (O27 [1,1,1,1,0,1,0,0,1,0,0,1,1,1,1,0,1,0,0]) (O27 [1,1,1,1,0,1,0,0,1,0,0,1,1,1,1,0,1,0,0]).toList 0 #[g0,g1,g2,g3,g4,g5,g6,g7,g8,g9,gA,gB,gC,gD,gE,gF,gG,gH,gI,gJ,gK,gL,gM,gN,gO,gP,gQ,gR,gS,gT,gU,gV,gW,gX,gY,gZ,hA,hB,hC,hD,hE,hF,hG,hH,hI,hJ,hK,hL,hM,hN,hO,hP,hQ,hR,hS,hT,hU] M K=K #[g0,g1,g2,g3,.slice none 0 0,.int .i64 3,g6,g7,g8,g9,gA,gB,gC,gD,gE,gF,gG,gH,gI,gJ,gK,gL,gM,gN,gO,gP,gQ,gR,gS,gT,gU,gV,gW,gX,gY,gZ,hA,hB,hC,hD,hE,hF,hG,hH,hI,hJ,hK,hL,hM,hN,hO,hP,hQ,hR,hS,hT,hU] M:=by kernel_rfl
theorem k27_47:P27 [1,1,1,1,0,1,0,0,1,0,0,1,1,1,1,0,1,0,1]=.ret:=by kernel_rfl
theorem k27_48:P27 [1,1,1,1,0,1,0,0,1,0,0,1,1,1,1,0,1,1]=.skip:=by kernel_rfl
theorem k27_49:P27 [1,1,1,1,0,1,0,0,1,0,0,1,1,1,1,1]=.seq (P27 [1,1,1,1,0,1,0,0,1,0,0,1,1,1,1,1,0]) (P27 [1,1,1,1,0,1,0,0,1,0,0,1,1,1,1,1,1]):=by kernel_rfl
theorem k27_50:P27 [1,1,1,1,0,1,0,0,1,0,0,1,1,1,1,1,0]=.region 15 (O27 [1,1,1,1,0,1,0,0,1,0,0,1,1,1,1,1,0]) false:=by kernel_rfl
theorem r27_15 {Y6:Option Addr} {l6 y6:Nat} {Y7:Option Addr} {l7 y7:Nat} {x10:Int} {M:Mem} {call:CallM} {K:Array Value→Mem→R} :
 opsK Try.prog (fun _=>call) (O27 [1,1,1,1,0,1,0,0,1,0,0,1,1,1,1,1,0]) (O27 [1,1,1,1,0,1,0,0,1,0,0,1,1,1,1,1,0]).toList 0 #[g0,g1,g2,g3,g4,g5,.slice Y6 l6 y6,.slice Y7 l7 y7,g8,g9,.int .u32 x10,gB,gC,gD,gE,gF,gG,gH,gI,gJ,gK,gL,gM,gN,gO,gP,gQ,gR,gS,gT,gU,gV,gW,gX,gY,gZ,hA,hB,hC,hD,hE,hF,hG,hH,hI,hJ,hK,hL,hM,hN,hO,hP,hQ,hR,hS,hT,hU] M K=(sliceP Try.prog 46 (.slice Y7 l7 y7) none (some (.int .u32 x10)) none).bind fun v_1=>(asS v_1).bind fun s_2=>(call 21 #[.slice s_2.1 (s_2.2.1) (s_2.2.2)] M).bind fun r_3=>(asS r_3.1).bind fun s_4=>(appendP Try.prog #[45,45] (.slice Y6 l6 y6) (.slice (some ⟨2*r_3.2.nb.size,0,none⟩) 1 1) (r_3.2.new (.cells #[.slice s_4.1 (s_4.2.1) (s_4.2.2)] 46))).bind fun r_5=>(asS r_5.1).bind fun s_6=>K #[g0,g1,g2,g3,g4,g5,.slice s_6.1 (s_6.2.1) (s_6.2.2),.slice Y7 l7 y7,g8,g9,.int .u32 x10,gB,gC,gD,gE,gF,gG,gH,gI,gJ,gK,gL,gM,gN,gO,gP,gQ,gR,gS,gT,gU,gV,gW,gX,gY,gZ,hA,hB,hC,hD,hE,hF,hG,.slice Y6 l6 y6,.slice Y7 l7 y7,.int .u32 x10,.slice s_2.1 (s_2.2.1) (s_2.2.2),.slice s_4.1 (s_4.2.1) (s_4.2.2),.slice (some ⟨2*r_3.2.nb.size,0,none⟩) 1 1,.slice s_6.1 (s_6.2.1) (s_6.2.2),hO,hP,hQ,hR,hS,hT,hU] r_5.2:=by kernel_rfl
theorem k27_51:P27 [1,1,1,1,0,1,0,0,1,0,0,1,1,1,1,1,1]=.region 16 (O27 [1,1,1,1,0,1,0,0,1,0,0,1,1,1,1,1,1]) false:=by kernel_rfl
theorem r27_16 {Y7:Option Addr} {l7 y7:Nat} {x10:Int} {M:Mem} {call:CallM} {K:Array Value→Mem→R} :
 opsK Try.prog (fun _=>call) (O27 [1,1,1,1,0,1,0,0,1,0,0,1,1,1,1,1,1]) (O27 [1,1,1,1,0,1,0,0,1,0,0,1,1,1,1,1,1]).toList 0 #[g0,g1,g2,g3,g4,g5,g6,.slice Y7 l7 y7,g8,g9,.int .u32 x10,gB,gC,gD,gE,gF,gG,gH,gI,gJ,gK,gL,gM,gN,gO,gP,gQ,gR,gS,gT,gU,gV,gW,gX,gY,gZ,hA,hB,hC,hD,hE,hF,hG,hH,hI,hJ,hK,hL,hM,hN,hO,hP,hQ,hR,hS,hT,hU] M K=(sliceP Try.prog 46 (.slice Y7 l7 y7) (some (.int .u32 x10)) none none).bind fun v_1=>(asS v_1).bind fun s_2=>K #[g0,g1,g2,g3,g4,g5,g6,.slice s_2.1 (s_2.2.1) (s_2.2.2),g8,g9,.int .u32 x10,gB,gC,gD,gE,gF,gG,gH,gI,gJ,gK,gL,gM,gN,gO,gP,gQ,gR,gS,gT,gU,gV,gW,gX,gY,gZ,hA,hB,hC,hD,hE,hF,hG,hH,hI,hJ,hK,hL,hM,hN,.slice Y7 l7 y7,.int .u32 x10,.slice s_2.1 (s_2.2.1) (s_2.2.2),hR,hS,hT,hU] M:=by kernel_rfl
theorem k27_52:P27 [1,1,1,1,0,1,0,0,1,1]=.region 7 (O27 [1,1,1,1,0,1,0,0,1,1]) false:=by kernel_rfl
theorem r27_7 {x8:Int} {M:Mem} {call:CallM} {K:Array Value→Mem→R} :
 opsK Try.prog (fun _=>call) (O27 [1,1,1,1,0,1,0,0,1,1]) (O27 [1,1,1,1,0,1,0,0,1,1]).toList 0 #[g0,g1,g2,g3,g4,g5,g6,g7,.int .i64 x8,g9,gA,gB,gC,gD,gE,gF,gG,gH,gI,gJ,gK,gL,gM,gN,gO,gP,gQ,gR,gS,gT,gU,gV,gW,gX,gY,gZ,hA,hB,hC,hD,hE,hF,hG,hH,hI,hJ,hK,hL,hM,hN,hO,hP,hQ,hR,hS,hT,hU] M K=K #[g0,g1,g2,g3,g4,g5,g6,g7,.int .i64 (IntKind.i64.wrap (x8+1)),g9,gA,gB,gC,gD,gE,gF,gG,gH,gI,gJ,gK,gL,gM,.int .i64 x8,.int .i64 (IntKind.i64.wrap (x8+1)),gP,gQ,gR,gS,gT,gU,gV,gW,gX,gY,gZ,hA,hB,hC,hD,hE,hF,hG,hH,hI,hJ,hK,hL,hM,hN,hO,hP,hQ,hR,hS,hT,hU] M:=by kernel_rfl
theorem k27_53:P27 [1,1,1,1,0,1,0,0,0,1,1]=.exit 0:=by kernel_rfl
theorem k27_54:P27 [1,1,1,1,1]=.seq (P27 [1,1,1,1,1,0]) (P27 [1,1,1,1,1,1]):=by kernel_rfl
theorem k27_55:P27 [1,1,1,1,1,0]=.seq (P27 [1,1,1,1,1,0,0]) (P27 [1,1,1,1,1,0,1]):=by kernel_rfl
theorem k27_56:P27 [1,1,1,1,1,0,0]=.region 17 (O27 [1,1,1,1,1,0,0]) false:=by kernel_rfl
theorem r27_17 {Y7:Option Addr} {l7 y7:Nat} {M:Mem} {call:CallM} {K:Array Value→Mem→R} :
 opsK Try.prog (fun _=>call) (O27 [1,1,1,1,1,0,0]) (O27 [1,1,1,1,1,0,0]).toList 0 #[g0,g1,g2,g3,g4,g5,g6,.slice Y7 l7 y7,g8,g9,gA,gB,gC,gD,gE,gF,gG,gH,gI,gJ,gK,gL,gM,gN,gO,gP,gQ,gR,gS,gT,gU,gV,gW,gX,gY,gZ,hA,hB,hC,hD,hE,hF,hG,hH,hI,hJ,hK,hL,hM,hN,hO,hP,hQ,hR,hS,hT,hU] M K=K #[g0,g1,g2,g3,g4,g5,g6,.slice Y7 l7 y7,g8,g9,gA,gB,gC,gD,gE,gF,gG,gH,gI,gJ,gK,gL,gM,gN,gO,gP,gQ,gR,gS,gT,gU,gV,gW,gX,gY,gZ,hA,hB,hC,hD,hE,hF,hG,hH,hI,hJ,hK,hL,hM,hN,hO,hP,hQ,.slice Y7 l7 y7,.int .i64 ((l7:Int)),.bool (decide (((l7:Int))>0)),hU] M:=by kernel_rfl
theorem c27_57:P27 [1,1,1,1,1,0,1]=.cond (.tmp 55) (P27 [1,1,1,1,1,0,1,0]) (P27 [1,1,1,1,1,0,1,1]):=by kernel_rfl
theorem k27_58:P27 [1,1,1,1,1,0,1,0]=.seq (P27 [1,1,1,1,1,0,1,0,0]) (P27 [1,1,1,1,1,0,1,0,1]):=by kernel_rfl
theorem k27_59:P27 [1,1,1,1,1,0,1,0,0]=.region 18 (O27 [1,1,1,1,1,0,1,0,0]) false:=by kernel_rfl
theorem r27_18 {M:Mem} {call:CallM} {K:Array Value→Mem→R} :
 opsK Try.prog (fun _=>call) (O27 [1,1,1,1,1,0,1,0,0]) (O27 [1,1,1,1,1,0,1,0,0]).toList 0 #[g0,g1,g2,g3,g4,g5,g6,g7,g8,g9,gA,gB,gC,gD,gE,gF,gG,gH,gI,gJ,gK,gL,gM,gN,gO,gP,gQ,gR,gS,gT,gU,gV,gW,gX,gY,gZ,hA,hB,hC,hD,hE,hF,hG,hH,hI,hJ,hK,hL,hM,hN,hO,hP,hQ,hR,hS,hT,hU] M K=K #[g0,g1,g2,g3,.slice none 0 0,.int .i64 4,g6,g7,g8,g9,gA,gB,gC,gD,gE,gF,gG,gH,gI,gJ,gK,gL,gM,gN,gO,gP,gQ,gR,gS,gT,gU,gV,gW,gX,gY,gZ,hA,hB,hC,hD,hE,hF,hG,hH,hI,hJ,hK,hL,hM,hN,hO,hP,hQ,hR,hS,hT,hU] M:=by kernel_rfl
theorem k27_60:P27 [1,1,1,1,1,0,1,0,1]=.ret:=by kernel_rfl
theorem k27_61:P27 [1,1,1,1,1,0,1,1]=.skip:=by kernel_rfl
theorem k27_62:P27 [1,1,1,1,1,1]=.seq (P27 [1,1,1,1,1,1,0]) (P27 [1,1,1,1,1,1,1]):=by kernel_rfl
theorem k27_63:P27 [1,1,1,1,1,1,0]=.region 19 (O27 [1,1,1,1,1,1,0]) false:=by kernel_rfl
theorem r27_19 {Y6:Option Addr} {l6 y6:Nat} {M:Mem} {call:CallM} {K:Array Value→Mem→R} :
 opsK Try.prog (fun _=>call) (O27 [1,1,1,1,1,1,0]) (O27 [1,1,1,1,1,1,0]).toList 0 #[g0,g1,g2,g3,g4,g5,.slice Y6 l6 y6,g7,g8,g9,gA,gB,gC,gD,gE,gF,gG,gH,gI,gJ,gK,gL,gM,gN,gO,gP,gQ,gR,gS,gT,gU,gV,gW,gX,gY,gZ,hA,hB,hC,hD,hE,hF,hG,hH,hI,hJ,hK,hL,hM,hN,hO,hP,hQ,hR,hS,hT,hU] M K=K #[g0,g1,g2,g3,.slice Y6 l6 y6,.int .i64 0,.slice Y6 l6 y6,g7,g8,g9,gA,gB,gC,gD,gE,gF,gG,gH,gI,gJ,gK,gL,gM,gN,gO,gP,gQ,gR,gS,gT,gU,gV,gW,gX,gY,gZ,hA,hB,hC,hD,hE,hF,hG,hH,hI,hJ,hK,hL,hM,hN,hO,hP,hQ,hR,hS,hT,.slice Y6 l6 y6] M:=by kernel_rfl
theorem k27_64:P27 [1,1,1,1,1,1,1]=.ret:=by kernel_rfl
noncomputable def S27_1:List Item:=[.code (P27 [1,0,1]),.code (P27 [1,1])]
def A27_1 (Y0:Option Addr) (l0 y0:Nat) (x1:Int) (x17:Bool) (M:Mem) (Q:Value→Mem→Prop):Prop:=∀ (g2 g3 g4 g5 g6 g7 g8 g9 gA gB gC gD gE gF gG gI gJ gK gL gM gN gO gP gQ gR gS gT gU gV gW gX gY gZ hA hB hC hD hE hF hG hH hI hJ hK hL hM hN hO hP hQ hR hS hT hU:Value),Rn Try.prog Try.f27 S27_1 #[.slice Y0 l0 y0,.int .i64 x1,g2,g3,g4,g5,g6,g7,g8,g9,gA,gB,gC,gD,gE,gF,gG,.bool x17,gI,gJ,gK,gL,gM,gN,gO,gP,gQ,gR,gS,gT,gU,gV,gW,gX,gY,gZ,hA,hB,hC,hD,hE,hF,hG,hH,hI,hJ,hK,hL,hM,hN,hO,hP,hQ,hR,hS,hT,hU] M Q
noncomputable def S27_2:List Item:=[.code (P27 [1,1,1,1,0,1,0,0]),.inLoop (P27 [1,1,1,1,0,1,0,0]),.inBlock 0,.code (P27 [1,1,1,1,1])]
def A27_2 (x1:Int) (Y6:Option Addr) (l6 y6:Nat) (Y7:Option Addr) (l7 y7:Nat) (x8:Int) (M:Mem) (Q:Value→Mem→Prop):Prop:=∀ (g0 g2 g3 g4 g5 g9 gA gB gC gD gE gF gG gH gI gJ gK gL gM gN gO gP gQ gR gS gT gU gV gW gX gY gZ hA hB hC hD hE hF hG hH hI hJ hK hL hM hN hO hP hQ hR hS hT hU:Value),Rn Try.prog Try.f27 S27_2 #[g0,.int .i64 x1,g2,g3,g4,g5,.slice Y6 l6 y6,.slice Y7 l7 y7,.int .i64 x8,g9,gA,gB,gC,gD,gE,gF,gG,gH,gI,gJ,gK,gL,gM,gN,gO,gP,gQ,gR,gS,gT,gU,gV,gW,gX,gY,gZ,hA,hB,hC,hD,hE,hF,hG,hH,hI,hJ,hK,hL,hM,hN,hO,hP,hQ,hR,hS,hT,hU] M Q
theorem w27_0 {Y0:Option Addr} {l0 y0:Nat} {x1:Int} {M:Mem} {Q:Value→Mem→Prop} (H :
 ((x1<1→
 A27_1 Y0 l0 y0 x1 true M Q)∧
 (¬(x1<1)→
 A27_1 Y0 l0 y0 x1 (decide (x1>16)) M Q))):
 Cn Try.prog 27 #[.slice Y0 l0 y0,.int .i64 x1] M Q:=by
  refine Cn.of b27 d27 t27 ?_
  refine Rn.seq k27_0 (Rn.region k27_1 (fun call K=>r27_0) (Rch.leaf (Rn.seq k27_2 (Rn.seq k27_3 (Rn.region k27_4 (fun call K=>r27_1) ?_)))))
  refine Rch.cB (fun h=>?_) (fun h=>?_)
  · replace H:=H.1 (of_decide_eq_true h)
    refine Rch.leaf ?_
    exact H ..
  · replace H:=H.2 (of_decide_eq_false h)
    refine Rch.leaf ?_
    exact H ..
theorem w27_1 {Y0:Option Addr} {l0 y0:Nat} {x1:Int} {x17:Bool} {M:Mem} {Q:Value→Mem→Prop} (H :
 ((x17=true→
 Q (.tuple #[.slice none 0 0,.int .i64 2]) M)∧
 (x17=false→
 Cn Try.prog 21 #[.slice Y0 l0 y0] M fun v1' N1'=>
 ∃s2',asS v1'=some s2'∧
 A27_2 x1 none 0 0 s2'.1 s2'.2.1 s2'.2.2 0 N1' Q))):
 A27_1 Y0 l0 y0 x1 x17 M Q:=by
  iterate 54 intro _
  refine Rn.cnd (v:=x17) ⟨c27_5,rfl,by kernel_rfl⟩ (fun h=>?_) (fun h=>?_)
  · replace H:=H.1 (h)
    refine Rn.seq k27_6 (Rn.region k27_7 (fun call K=>r27_2) (Rch.leaf ?_))
    exact Rn.ret k27_8 e27 H
  · replace H:=H.2 (h)
    refine Rn.skip k27_10 (Rn.seq k27_11 (Rn.region k27_12 (fun call K=>r27_3) (Rch.leaf (Rn.seq k27_13 (Rn.region k27_14 (fun call K=>r27_4) (Rch.call H fun v1' N1' H=>Rch.ex H fun s2' H=>Rch.leaf (Rn.seq k27_15 (Rn.seq k27_16 (Rn.region k27_17 (fun call K=>r27_5) ?_)))))))))
    refine Rch.leaf (Rn.block k27_18 (Rn.loop k27_19 ?_))
    exact H ..
theorem w27_2 {x1:Int} {Y6:Option Addr} {l6 y6:Nat} {Y7:Option Addr} {l7 y7:Nat} {x8:Int} {M:Mem} {Q:Value→Mem→Prop} (H :
 ((x8<x1→
 Cn Try.prog 47 #[.slice Y7 l7 y7] M fun v3' N3'=>
 ∃p4',asP v3'=some p4'∧
 Cn Try.prog 48 #[.pointer p4'] N3' fun v5' N5'=>
 ∃cs6',asU 2 v5'=some cs6'∧
 ∃x7',asI .u32 (cs6'.getD 0 undef)=some x7'∧
 ∃x8',asI .i64 (cs6'.getD 1 undef)=some x8'∧
 ((x8'≠0→
 Q (.tuple #[.slice none 0 0,.int .i64 (x8')]) N5')∧
 (x8'=0→
 Cn Try.prog 49 #[.pointer p4'] N5' fun v9' N9'=>
 ∃s10',asS v9'=some s10'∧
 (((IntKind.u64.wrap (x7'))>(IntKind.u64.wrap ((s10'.2.1:Int)))→
 Q (.tuple #[.slice none 0 0,.int .i64 3]) N9')∧
 (¬((IntKind.u64.wrap (x7'))>(IntKind.u64.wrap ((s10'.2.1:Int))))→
 ∃v11',sliceP Try.prog 46 (.slice s10'.1 s10'.2.1 s10'.2.2) none (some (.int .u32 x7')) none=some v11'∧
 ∃s12',asS v11'=some s12'∧
 Cn Try.prog 21 #[.slice s12'.1 (s12'.2.1) (s12'.2.2)] N9' fun v13' N13'=>
 ∃s14',asS v13'=some s14'∧
 ∃r15',appendP Try.prog #[45,45] (.slice Y6 l6 y6) (.slice (some ⟨2*N13'.nb.size,0,none⟩) 1 1) (N13'.new (.cells #[.slice s14'.1 (s14'.2.1) (s14'.2.2)] 46))=some r15'∧
 ∃s16',asS r15'.1=some s16'∧
 ∃v17',sliceP Try.prog 46 (.slice s10'.1 s10'.2.1 s10'.2.2) (some (.int .u32 x7')) none none=some v17'∧
 ∃s18',asS v17'=some s18'∧
 A27_2 x1 s16'.1 s16'.2.1 s16'.2.2 s18'.1 s18'.2.1 s18'.2.2 (IntKind.i64.wrap (x8+1)) r15'.2 Q)))))∧
 (¬(x8<x1)→
 ((((l7:Int))>0→
 Q (.tuple #[.slice none 0 0,.int .i64 4]) M)∧
 (¬(((l7:Int))>0)→
 Q (.tuple #[.slice Y6 l6 y6,.int .i64 0]) M))))):
 A27_2 x1 Y6 l6 y6 Y7 l7 y7 x8 M Q:=by
  iterate 53 intro _
  refine Rn.seq k27_20 (Rn.seq k27_21 (Rn.region k27_22 (fun call K=>r27_6) (Rch.leaf ?_)))
  refine Rn.cnd (v:=decide (x8<x1)) ⟨c27_23,rfl,by kernel_rfl⟩ (fun h=>?_) (fun h=>?_)
  · replace H:=H.1 (of_decide_eq_true h)
    refine Rn.skip k27_24 (Rn.seq k27_25 (Rn.block k27_26 (Rn.seq k27_27 (Rn.region k27_28 (fun call K=>r27_8) (Rch.call H fun v3' N3' H=>Rch.ex H fun p4' H=>Rch.leaf (Rn.seq k27_29 (Rn.region k27_30 (fun call K=>r27_9) (Rch.call H fun v5' N5' H=>Rch.ex H fun cs6' H=>?_))))))))
    refine Rch.ex H fun x7' H=>Rch.ex H fun x8' H=>Rch.leaf (Rn.seq k27_31 (Rn.seq k27_32 (Rn.region k27_33 (fun call K=>r27_10) (Rch.leaf ?_))))
    refine Rn.cnd (v:=x8' != 0) ⟨c27_34,rfl,by kernel_rfl⟩ (fun h=>?_) (fun h=>?_)
    · replace H:=H.1 (ne_of_bneT h)
      refine Rn.seq k27_35 (Rn.region k27_36 (fun call K=>r27_11) (Rch.leaf ?_))
      exact Rn.ret k27_37 e27 H
    · replace H:=H.2 (eq_of_bneF h)
      refine Rn.skip k27_38 (Rn.seq k27_39 (Rn.region k27_40 (fun call K=>r27_12) (Rch.call H fun v9' N9' H=>Rch.ex H fun s10' H=>Rch.leaf (Rn.seq k27_41 (Rn.seq k27_42 (Rn.region k27_43 (fun call K=>r27_13) (Rch.leaf ?_)))))))
      refine Rn.cnd (v:=decide ((IntKind.u64.wrap (x7'))>(IntKind.u64.wrap ((s10'.2.1:Int))))) ⟨c27_44,rfl,by kernel_rfl⟩ (fun h=>?_) (fun h=>?_)
      · replace H:=H.1 (of_decide_eq_true h)
        refine Rn.seq k27_45 (Rn.region k27_46 (fun call K=>r27_14) (Rch.leaf ?_))
        exact Rn.ret k27_47 e27 H
      · replace H:=H.2 (of_decide_eq_false h)
        refine Rn.skip k27_48 (Rn.seq k27_49 (Rn.region k27_50 (fun call K=>r27_15) (Rch.ex H fun v11' H=>Rch.ex H fun s12' H=>Rch.call H fun v13' N13' H=>Rch.ex H fun s14' H=>Rch.ex H fun r15' H=>Rch.ex H fun s16' H=>Rch.leaf (Rn.region k27_51 (fun call K=>r27_16) (Rch.ex H fun v17' H=>?_)))))
        refine Rch.ex H fun s18' H=>Rch.leaf (Rn.blk (Rn.region k27_52 (fun call K=>r27_7) (Rch.leaf (Rn.lp ?_))))
        exact H ..
  · replace H:=H.2 (of_decide_eq_false h)
    refine Rn.exit k27_53 rfl (Rn.seq k27_54 (Rn.seq k27_55 (Rn.region k27_56 (fun call K=>r27_17) (Rch.leaf ?_))))
    refine Rn.cnd (v:=decide (((l7:Int))>0)) ⟨c27_57,rfl,by kernel_rfl⟩ (fun h=>?_) (fun h=>?_)
    · replace H:=H.1 (of_decide_eq_true h)
      refine Rn.seq k27_58 (Rn.region k27_59 (fun call K=>r27_18) (Rch.leaf ?_))
      exact Rn.ret k27_60 e27 H
    · replace H:=H.2 (of_decide_eq_false h)
      refine Rn.skip k27_61 (Rn.seq k27_62 (Rn.region k27_63 (fun call K=>r27_19) (Rch.leaf ?_)))
      exact Rn.ret k27_64 e27 H
end Go.Zu
