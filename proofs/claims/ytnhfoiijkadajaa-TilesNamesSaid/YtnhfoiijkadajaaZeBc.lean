/- The functions' walks: for each function and each loop a rule of what it comes to. Printed by zw.py. -/
import Derived.Test.YtnhfoiijkadajaaProg
import Derived.Test.YtnhfoiijkadajaaZeA
set_option linter.unusedVariables false
set_option maxRecDepth 100000
namespace Go.Zt
open Go Go.Sim Go.Proofs
variable {g0 g1 g2 g3 g4 g5 g6 g7 g8 g9 gA gB gC gD gE gF gG gH gI gJ gK gL gM gN gO gP gQ gR gS gT gU gV gW gX gY gZ hA hB hC hD hE hF hG hH hI hJ hK hL hM hN hO hP hQ hR hS hT hU hV hW hX hY hZ h0 h1 h2 h3 h4 h5 h6 h7 h8 h9 jA jB jC jD jE jF jG jH jI jJ jK jL jM jN jO jP jQ jR jS jT jU jV jW jX jY jZ j0 j1 j2 j3 j4 j5 j6 j7:Value}
noncomputable abbrev P10 (p:List Nat):Code:=subC (codeOf Try.f10) p
noncomputable abbrev O10 (p:List Nat):Array Oper:=opsOf (subC (codeOf Try.f10) p)
theorem b10:Try.prog.funcs[10]?=some Try.f10∧(Orc.tab Try.prog).lookup 10=none:=⟨by kernel_rfl,by kernel_rfl⟩
theorem d10:Try.f10.body=some (P10 []):=by kernel_rfl
theorem t10 {Y0:Option Addr} {l0 y0:Nat}:#[.slice Y0 l0 y0] ++ Array.replicate (Try.f10.ntmps-(#[.slice Y0 l0 y0]:Array Value).size) undef=#[.slice Y0 l0 y0,undef,undef,undef,undef,undef,undef,undef]:=by kernel_rfl
theorem k10_0:P10 []=.seq (P10 [0]) (P10 [1]):=by kernel_rfl
theorem k10_1:P10 [0]=.region 0 (O10 [0]) false:=by kernel_rfl
theorem r10_0 {M:Mem} {call:CallM} {K:Array Value→Mem→R} :
 opsK Try.prog (fun _=>call) (O10 [0]) (O10 [0]).toList 0 #[g0,g1,g2,g3,g4,g5,g6,g7] M K=K #[g0,g1,.slice none 0 0,g3,g4,g5,g6,g7] M:=by kernel_rfl
theorem k10_2:P10 [1]=.seq (P10 [1,0]) (P10 [1,1]):=by kernel_rfl
theorem k10_3:P10 [1,0]=.region 1 (O10 [1,0]) false:=by kernel_rfl
theorem r10_1 {M:Mem} {call:CallM} {K:Array Value→Mem→R} :
 opsK Try.prog (fun _=>call) (O10 [1,0]) (O10 [1,0]).toList 0 #[g0,g1,g2,g3,g4,g5,g6,g7] M K=K #[g0,g1,g2,.slice none 0 0,g4,g5,g6,g7] M:=by kernel_rfl
theorem k10_4:P10 [1,1]=.seq (P10 [1,1,0]) (P10 [1,1,1]):=by kernel_rfl
theorem k10_5:P10 [1,1,0]=.region 2 (O10 [1,1,0]) false:=by kernel_rfl
theorem r10_2 {Y0:Option Addr} {l0 y0:Nat} {Y3:Option Addr} {l3 y3:Nat} {M:Mem} {call:CallM} {K:Array Value→Mem→R} :
 opsK Try.prog (fun _=>call) (O10 [1,1,0]) (O10 [1,1,0]).toList 0 #[.slice Y0 l0 y0,g1,g2,.slice Y3 l3 y3,g4,g5,g6,g7] M K=(appendP Try.prog #[22,22] (.slice Y3 l3 y3) (.slice Y0 l0 y0) M).bind fun r_1=>(asS r_1.1).bind fun s_2=>K #[.slice Y0 l0 y0,g1,g2,.slice s_2.1 (s_2.2.1) (s_2.2.2),.slice Y3 l3 y3,.slice Y0 l0 y0,.slice s_2.1 (s_2.2.1) (s_2.2.2),g7] r_1.2:=by kernel_rfl
theorem k10_6:P10 [1,1,1]=.seq (P10 [1,1,1,0]) (P10 [1,1,1,1]):=by kernel_rfl
theorem k10_7:P10 [1,1,1,0]=.region 3 (O10 [1,1,1,0]) false:=by kernel_rfl
theorem r10_3 {Y3:Option Addr} {l3 y3:Nat} {M:Mem} {call:CallM} {K:Array Value→Mem→R} :
 opsK Try.prog (fun _=>call) (O10 [1,1,1,0]) (O10 [1,1,1,0]).toList 0 #[g0,g1,g2,.slice Y3 l3 y3,g4,g5,g6,g7] M K=K #[g0,g1,.slice Y3 l3 y3,.slice Y3 l3 y3,g4,g5,g6,.slice Y3 l3 y3] M:=by kernel_rfl
theorem k10_8:P10 [1,1,1,1]=.ret:=by kernel_rfl
theorem e10 {M:Mem}:finish Try.prog Try.f10 #[g0,g1,g2,g3,g4,g5,g6,g7] M=some (g2,M):=by kernel_rfl
theorem w10_0 {Y0:Option Addr} {l0 y0:Nat} {M:Mem} {Q:Value→Mem→Prop} (H :
 ∃r1',appendP Try.prog #[22,22] (.slice none 0 0) (.slice Y0 l0 y0) M=some r1'∧
 ∃s2',asS r1'.1=some s2'∧
 Q (.slice s2'.1 (s2'.2.1) (s2'.2.2)) r1'.2):
 Cn Try.prog 10 #[.slice Y0 l0 y0] M Q:=by
  refine Cn.of b10 d10 t10 ?_
  refine Rn.seq k10_0 (Rn.region k10_1 (fun call K=>r10_0) (Rch.leaf (Rn.seq k10_2 (Rn.region k10_3 (fun call K=>r10_1) (Rch.leaf (Rn.seq k10_4 (Rn.region k10_5 (fun call K=>r10_2) (Rch.ex H fun r1' H=>Rch.ex H fun s2' H=>Rch.leaf (Rn.seq k10_6 ?_)))))))))
  refine Rn.region k10_7 (fun call K=>r10_3) (Rch.leaf ?_)
  exact Rn.ret k10_8 e10 H
noncomputable abbrev P13 (p:List Nat):Code:=subC (codeOf Try.f13) p
noncomputable abbrev O13 (p:List Nat):Array Oper:=opsOf (subC (codeOf Try.f13) p)
theorem b13:Try.prog.funcs[13]?=some Try.f13∧(Orc.tab Try.prog).lookup 13=none:=⟨by kernel_rfl,by kernel_rfl⟩
theorem d13:Try.f13.body=some (P13 []):=by kernel_rfl
theorem t13 {Y0:Option Addr} {l0 y0:Nat} {Y1:Option Addr} {l1 y1:Nat}:#[.slice Y0 l0 y0,.slice Y1 l1 y1] ++ Array.replicate (Try.f13.ntmps-(#[.slice Y0 l0 y0,.slice Y1 l1 y1]:Array Value).size) undef=#[.slice Y0 l0 y0,.slice Y1 l1 y1,undef,undef,undef,undef,undef,undef,undef,undef,undef,undef,undef,undef,undef,undef,undef,undef,undef,undef,undef,undef,undef,undef,undef,undef]:=by kernel_rfl
theorem k13_0:P13 []=.seq (P13 [0]) (P13 [1]):=by kernel_rfl
theorem k13_1:P13 [0]=.region 0 (O13 [0]) false:=by kernel_rfl
theorem r13_0 {M:Mem} {call:CallM} {K:Array Value→Mem→R} :
 opsK Try.prog (fun _=>call) (O13 [0]) (O13 [0]).toList 0 #[g0,g1,g2,g3,g4,g5,g6,g7,g8,g9,gA,gB,gC,gD,gE,gF,gG,gH,gI,gJ,gK,gL,gM,gN,gO,gP] M K=K #[g0,g1,g2,g3,.bool false,g5,g6,g7,g8,g9,gA,gB,gC,gD,gE,gF,gG,gH,gI,gJ,gK,gL,gM,gN,gO,gP] M:=by kernel_rfl
theorem k13_2:P13 [1]=.seq (P13 [1,0]) (P13 [1,1]):=by kernel_rfl
theorem k13_3:P13 [1,0]=.seq (P13 [1,0,0]) (P13 [1,0,1]):=by kernel_rfl
theorem k13_4:P13 [1,0,0]=.region 1 (O13 [1,0,0]) false:=by kernel_rfl
theorem r13_1 {Y0:Option Addr} {l0 y0:Nat} {Y1:Option Addr} {l1 y1:Nat} {M:Mem} {call:CallM} {K:Array Value→Mem→R} :
 opsK Try.prog (fun _=>call) (O13 [1,0,0]) (O13 [1,0,0]).toList 0 #[.slice Y0 l0 y0,.slice Y1 l1 y1,g2,g3,g4,g5,g6,g7,g8,g9,gA,gB,gC,gD,gE,gF,gG,gH,gI,gJ,gK,gL,gM,gN,gO,gP] M K=K #[.slice Y0 l0 y0,.slice Y1 l1 y1,g2,g3,g4,g5,.slice Y0 l0 y0,.int .i64 ((l0:Int)),.slice Y1 l1 y1,.int .i64 ((l1:Int)),.bool (((l0:Int)) != ((l1:Int))),gB,gC,gD,gE,gF,gG,gH,gI,gJ,gK,gL,gM,gN,gO,gP] M:=by kernel_rfl
theorem c13_5:P13 [1,0,1]=.cond (.tmp 10) (P13 [1,0,1,0]) (P13 [1,0,1,1]):=by kernel_rfl
theorem k13_6:P13 [1,0,1,0]=.seq (P13 [1,0,1,0,0]) (P13 [1,0,1,0,1]):=by kernel_rfl
theorem k13_7:P13 [1,0,1,0,0]=.region 2 (O13 [1,0,1,0,0]) false:=by kernel_rfl
theorem r13_2 {M:Mem} {call:CallM} {K:Array Value→Mem→R} :
 opsK Try.prog (fun _=>call) (O13 [1,0,1,0,0]) (O13 [1,0,1,0,0]).toList 0 #[g0,g1,g2,g3,g4,g5,g6,g7,g8,g9,gA,gB,gC,gD,gE,gF,gG,gH,gI,gJ,gK,gL,gM,gN,gO,gP] M K=K #[g0,g1,g2,g3,.bool false,g5,g6,g7,g8,g9,gA,gB,gC,gD,gE,gF,gG,gH,gI,gJ,gK,gL,gM,gN,gO,gP] M:=by kernel_rfl
theorem k13_8:P13 [1,0,1,0,1]=.ret:=by kernel_rfl
theorem e13 {M:Mem}:finish Try.prog Try.f13 #[g0,g1,g2,g3,g4,g5,g6,g7,g8,g9,gA,gB,gC,gD,gE,gF,gG,gH,gI,gJ,gK,gL,gM,gN,gO,gP] M=some (g4,M):=by kernel_rfl
theorem k13_10:P13 [1,0,1,1]=.skip:=by kernel_rfl
theorem k13_11:P13 [1,1]=.seq (P13 [1,1,0]) (P13 [1,1,1]):=by kernel_rfl
theorem k13_12:P13 [1,1,0]=.seq (P13 [1,1,0,0]) (P13 [1,1,0,1]):=by kernel_rfl
theorem k13_13:P13 [1,1,0,0]=.region 3 (O13 [1,1,0,0]) false:=by kernel_rfl
theorem r13_3 {M:Mem} {call:CallM} {K:Array Value→Mem→R} :
 opsK Try.prog (fun _=>call) (O13 [1,1,0,0]) (O13 [1,1,0,0]).toList 0 #[g0,g1,g2,g3,g4,g5,g6,g7,g8,g9,gA,gB,gC,gD,gE,gF,gG,gH,gI,gJ,gK,gL,gM,gN,gO,gP] M K=K #[g0,g1,g2,g3,g4,.int .i64 0,g6,g7,g8,g9,gA,gB,gC,gD,gE,gF,gG,gH,gI,gJ,gK,gL,gM,gN,gO,gP] M:=by kernel_rfl
theorem k13_14:P13 [1,1,0,1]=.block 0 (P13 [1,1,0,1,0]):=by kernel_rfl
theorem k13_15:P13 [1,1,0,1,0]=.loop (P13 [1,1,0,1,0,0]):=by kernel_rfl
theorem k13_16:P13 [1,1,0,1,0,0]=.seq (P13 [1,1,0,1,0,0,0]) (P13 [1,1,0,1,0,0,1]):=by kernel_rfl
theorem k13_17:P13 [1,1,0,1,0,0,0]=.seq (P13 [1,1,0,1,0,0,0,0]) (P13 [1,1,0,1,0,0,0,1]):=by kernel_rfl
theorem k13_18:P13 [1,1,0,1,0,0,0,0]=.region 4 (O13 [1,1,0,1,0,0,0,0]) false:=by kernel_rfl
theorem r13_4 {Y0:Option Addr} {l0 y0:Nat} {x5:Int} {M:Mem} {call:CallM} {K:Array Value→Mem→R} :
 opsK Try.prog (fun _=>call) (O13 [1,1,0,1,0,0,0,0]) (O13 [1,1,0,1,0,0,0,0]).toList 0 #[.slice Y0 l0 y0,g1,g2,g3,g4,.int .i64 x5,g6,g7,g8,g9,gA,gB,gC,gD,gE,gF,gG,gH,gI,gJ,gK,gL,gM,gN,gO,gP] M K=K #[.slice Y0 l0 y0,g1,g2,g3,g4,.int .i64 x5,g6,g7,g8,g9,gA,.int .i64 x5,.slice Y0 l0 y0,.int .i64 ((l0:Int)),.bool (decide (x5<((l0:Int)))),gF,gG,gH,gI,gJ,gK,gL,gM,gN,gO,gP] M:=by kernel_rfl
theorem c13_19:P13 [1,1,0,1,0,0,0,1]=.cond (.tmp 14) (P13 [1,1,0,1,0,0,0,1,0]) (P13 [1,1,0,1,0,0,0,1,1]):=by kernel_rfl
theorem k13_20:P13 [1,1,0,1,0,0,0,1,0]=.skip:=by kernel_rfl
theorem k13_21:P13 [1,1,0,1,0,0,1]=.seq (P13 [1,1,0,1,0,0,1,0]) (P13 [1,1,0,1,0,0,1,1]):=by kernel_rfl
theorem k13_22:P13 [1,1,0,1,0,0,1,0]=.block 1 (P13 [1,1,0,1,0,0,1,0,0]):=by kernel_rfl
theorem k13_23:P13 [1,1,0,1,0,0,1,0,0]=.seq (P13 [1,1,0,1,0,0,1,0,0,0]) (P13 [1,1,0,1,0,0,1,0,0,1]):=by kernel_rfl
theorem k13_24:P13 [1,1,0,1,0,0,1,0,0,0]=.region 6 (O13 [1,1,0,1,0,0,1,0,0,0]) true∧drawOk (O13 [1,1,0,1,0,0,1,0,0,0])=true:=⟨by kernel_rfl,by kernel_rfl⟩
theorem r13_6 {Y0:Option Addr} {l0 y0:Nat} {Y1:Option Addr} {l1 y1:Nat} {x5:Int} {M:Mem} {call:CallM} {K:Array Value→Mem→R} :
    opsI Try.prog (callAt call (O13 [1,1,0,1,0,0,1,0,0,0])) (O13 [1,1,0,1,0,0,1,0,0,0]) (ordOf (O13 [1,1,0,1,0,0,1,0,0,0])) [] #[.slice Y0 l0 y0,.slice Y1 l1 y1,g2,g3,g4,.int .i64 x5,g6,g7,g8,g9,gA,gB,gC,gD,gE,gF,gG,gH,gI,gJ,gK,gL,gM,gN,gO,gP] M K=(idxA Y0 l0 1 x5).bind fun a_1=>(M.intAt .i64 a_1.block a_1.off).bind fun x_2=>(idxA Y1 l1 1 x5).bind fun a_3=>(M.intAt .i64 a_3.block a_3.off).bind fun x_4=>K #[.slice Y0 l0 y0,.slice Y1 l1 y1,g2,g3,g4,.int .i64 x5,g6,g7,g8,g9,gA,gB,gC,gD,gE,gF,gG,.slice Y0 l0 y0,.int .i64 x5,.pointer (some a_1),.int .i64 x_2,.slice Y1 l1 y1,.int .i64 x5,.pointer (some a_3),.int .i64 x_4,.bool (x_2 != x_4)] M:=by kernel_rfl
theorem c13_25:P13 [1,1,0,1,0,0,1,0,0,1]=.cond (.tmp 25) (P13 [1,1,0,1,0,0,1,0,0,1,0]) (P13 [1,1,0,1,0,0,1,0,0,1,1]):=by kernel_rfl
theorem k13_26:P13 [1,1,0,1,0,0,1,0,0,1,0]=.seq (P13 [1,1,0,1,0,0,1,0,0,1,0,0]) (P13 [1,1,0,1,0,0,1,0,0,1,0,1]):=by kernel_rfl
theorem k13_27:P13 [1,1,0,1,0,0,1,0,0,1,0,0]=.region 7 (O13 [1,1,0,1,0,0,1,0,0,1,0,0]) false:=by kernel_rfl
theorem r13_7 {M:Mem} {call:CallM} {K:Array Value→Mem→R} :
 opsK Try.prog (fun _=>call) (O13 [1,1,0,1,0,0,1,0,0,1,0,0]) (O13 [1,1,0,1,0,0,1,0,0,1,0,0]).toList 0 #[g0,g1,g2,g3,g4,g5,g6,g7,g8,g9,gA,gB,gC,gD,gE,gF,gG,gH,gI,gJ,gK,gL,gM,gN,gO,gP] M K=K #[g0,g1,g2,g3,.bool false,g5,g6,g7,g8,g9,gA,gB,gC,gD,gE,gF,gG,gH,gI,gJ,gK,gL,gM,gN,gO,gP] M:=by kernel_rfl
theorem k13_28:P13 [1,1,0,1,0,0,1,0,0,1,0,1]=.ret:=by kernel_rfl
theorem k13_29:P13 [1,1,0,1,0,0,1,0,0,1,1]=.skip:=by kernel_rfl
theorem k13_30:P13 [1,1,0,1,0,0,1,1]=.region 5 (O13 [1,1,0,1,0,0,1,1]) false:=by kernel_rfl
theorem r13_5 {x5:Int} {M:Mem} {call:CallM} {K:Array Value→Mem→R} :
 opsK Try.prog (fun _=>call) (O13 [1,1,0,1,0,0,1,1]) (O13 [1,1,0,1,0,0,1,1]).toList 0 #[g0,g1,g2,g3,g4,.int .i64 x5,g6,g7,g8,g9,gA,gB,gC,gD,gE,gF,gG,gH,gI,gJ,gK,gL,gM,gN,gO,gP] M K=K #[g0,g1,g2,g3,g4,.int .i64 (IntKind.i64.wrap (x5+1)),g6,g7,g8,g9,gA,gB,gC,gD,gE,.int .i64 x5,.int .i64 (IntKind.i64.wrap (x5+1)),gH,gI,gJ,gK,gL,gM,gN,gO,gP] M:=by kernel_rfl
theorem k13_31:P13 [1,1,0,1,0,0,0,1,1]=.exit 0:=by kernel_rfl
theorem k13_32:P13 [1,1,1]=.seq (P13 [1,1,1,0]) (P13 [1,1,1,1]):=by kernel_rfl
theorem k13_33:P13 [1,1,1,0]=.region 8 (O13 [1,1,1,0]) false:=by kernel_rfl
theorem r13_8 {M:Mem} {call:CallM} {K:Array Value→Mem→R} :
 opsK Try.prog (fun _=>call) (O13 [1,1,1,0]) (O13 [1,1,1,0]).toList 0 #[g0,g1,g2,g3,g4,g5,g6,g7,g8,g9,gA,gB,gC,gD,gE,gF,gG,gH,gI,gJ,gK,gL,gM,gN,gO,gP] M K=K #[g0,g1,g2,g3,.bool true,g5,g6,g7,g8,g9,gA,gB,gC,gD,gE,gF,gG,gH,gI,gJ,gK,gL,gM,gN,gO,gP] M:=by kernel_rfl
theorem k13_34:P13 [1,1,1,1]=.ret:=by kernel_rfl
noncomputable def S13_1:List Item:=[.code (P13 [1,1,0,1,0,0]),.inLoop (P13 [1,1,0,1,0,0]),.inBlock 0,.code (P13 [1,1,1])]
def A13_1 (Y0:Option Addr) (l0 y0:Nat) (Y1:Option Addr) (l1 y1:Nat) (x5:Int) (M:Mem) (Q:Value→Mem→Prop):Prop:=∀ (g2 g3 g4 g6 g7 g8 g9 gA gB gC gD gE gF gG gH gI gJ gK gL gM gN gO gP:Value),Rn Try.prog Try.f13 S13_1 #[.slice Y0 l0 y0,.slice Y1 l1 y1,g2,g3,g4,.int .i64 x5,g6,g7,g8,g9,gA,gB,gC,gD,gE,gF,gG,gH,gI,gJ,gK,gL,gM,gN,gO,gP] M Q
theorem w13_0 {Y0:Option Addr} {l0 y0:Nat} {Y1:Option Addr} {l1 y1:Nat} {M:Mem} {Q:Value→Mem→Prop} (H :
 ((((l0:Int))≠((l1:Int))→
 Q (.bool false) M)∧
 (((l0:Int))=((l1:Int))→
 A13_1 Y0 l0 y0 Y1 l1 y1 0 M Q))):
 Cn Try.prog 13 #[.slice Y0 l0 y0,.slice Y1 l1 y1] M Q:=by
  refine Cn.of b13 d13 t13 ?_
  refine Rn.seq k13_0 (Rn.region k13_1 (fun call K=>r13_0) (Rch.leaf (Rn.seq k13_2 (Rn.seq k13_3 (Rn.region k13_4 (fun call K=>r13_1) (Rch.leaf ?_))))))
  refine Rn.cnd (v:=((l0:Int)) != ((l1:Int))) ⟨c13_5,rfl,by kernel_rfl⟩ (fun h=>?_) (fun h=>?_)
  · replace H:=H.1 (ne_of_bneT h)
    refine Rn.seq k13_6 (Rn.region k13_7 (fun call K=>r13_2) (Rch.leaf ?_))
    exact Rn.ret k13_8 e13 H
  · replace H:=H.2 (eq_of_bneF h)
    refine Rn.skip k13_10 (Rn.seq k13_11 (Rn.seq k13_12 (Rn.region k13_13 (fun call K=>r13_3) (Rch.leaf (Rn.block k13_14 (Rn.loop k13_15 ?_))))))
    exact H ..
theorem w13_1 {Y0:Option Addr} {l0 y0:Nat} {Y1:Option Addr} {l1 y1:Nat} {x5:Int} {M:Mem} {Q:Value→Mem→Prop} (H :
 ((x5<((l0:Int))→
 ∃a1',idxA Y0 l0 1 x5=some a1'∧
 ∃x2',M.intAt .i64 a1'.block a1'.off=some x2'∧
 ∃a3',idxA Y1 l1 1 x5=some a3'∧
 ∃x4',M.intAt .i64 a3'.block a3'.off=some x4'∧
 ((x2'≠x4'→
 Q (.bool false) M)∧
 (x2'=x4'→
 A13_1 Y0 l0 y0 Y1 l1 y1 (IntKind.i64.wrap (x5+1)) M Q)))∧
 (¬(x5<((l0:Int)))→
 Q (.bool true) M))):
 A13_1 Y0 l0 y0 Y1 l1 y1 x5 M Q:=by
  iterate 23 intro _
  refine Rn.seq k13_16 (Rn.seq k13_17 (Rn.region k13_18 (fun call K=>r13_4) (Rch.leaf ?_)))
  refine Rn.cnd (v:=decide (x5<((l0:Int)))) ⟨c13_19,rfl,by kernel_rfl⟩ (fun h=>?_) (fun h=>?_)
  · replace H:=H.1 (of_decide_eq_true h)
    refine Rn.skip k13_20 (Rn.seq k13_21 (Rn.block k13_22 (Rn.seq k13_23 (Rn.regionD k13_24 (fun call K=>r13_6) (Rch.ex H fun a1' H=>Rch.ex H fun x2' H=>Rch.ex H fun a3' H=>Rch.ex H fun x4' H=>Rch.leaf ?_)))))
    refine Rn.cnd (v:=x2' != x4') ⟨c13_25,rfl,by kernel_rfl⟩ (fun h=>?_) (fun h=>?_)
    · replace H:=H.1 (ne_of_bneT h)
      refine Rn.seq k13_26 (Rn.region k13_27 (fun call K=>r13_7) (Rch.leaf ?_))
      exact Rn.ret k13_28 e13 H
    · replace H:=H.2 (eq_of_bneF h)
      refine Rn.skip k13_29 (Rn.blk (Rn.region k13_30 (fun call K=>r13_5) (Rch.leaf (Rn.lp ?_))))
      exact H ..
  · replace H:=H.2 (of_decide_eq_false h)
    refine Rn.exit k13_31 rfl (Rn.seq k13_32 (Rn.region k13_33 (fun call K=>r13_8) (Rch.leaf ?_)))
    exact Rn.ret k13_34 e13 H
noncomputable abbrev P28 (p:List Nat):Code:=subC (codeOf Try.f28) p
noncomputable abbrev O28 (p:List Nat):Array Oper:=opsOf (subC (codeOf Try.f28) p)
theorem b28:Try.prog.funcs[28]?=some Try.f28∧(Orc.tab Try.prog).lookup 28=none:=⟨by kernel_rfl,by kernel_rfl⟩
theorem d28:Try.f28.body=some (P28 []):=by kernel_rfl
theorem t28 {Y0:Option Addr} {l0 y0:Nat} {x1:Int}:#[.slice Y0 l0 y0,.int .i64 x1] ++ Array.replicate (Try.f28.ntmps-(#[.slice Y0 l0 y0,.int .i64 x1]:Array Value).size) undef=#[.slice Y0 l0 y0,.int .i64 x1,undef,undef,undef,undef,undef,undef,undef,undef,undef,undef,undef,undef,undef,undef,undef,undef,undef,undef,undef,undef,undef,undef,undef,undef,undef,undef,undef,undef,undef,undef,undef]:=by kernel_rfl
theorem k28_0:P28 []=.seq (P28 [0]) (P28 [1]):=by kernel_rfl
theorem k28_1:P28 [0]=.region 0 (O28 [0]) false:=by kernel_rfl
theorem r28_0 {M:Mem} {call:CallM} {K:Array Value→Mem→R} :
 opsK Try.prog (fun _=>call) (O28 [0]) (O28 [0]).toList 0 #[g0,g1,g2,g3,g4,g5,g6,g7,g8,g9,gA,gB,gC,gD,gE,gF,gG,gH,gI,gJ,gK,gL,gM,gN,gO,gP,gQ,gR,gS,gT,gU,gV,gW] M K=K #[g0,g1,g2,g3,.int .i64 0,.int .i64 0,g6,g7,g8,g9,gA,gB,gC,gD,gE,gF,gG,gH,gI,gJ,gK,gL,gM,gN,gO,gP,gQ,gR,gS,gT,gU,gV,gW] M:=by kernel_rfl
theorem k28_2:P28 [1]=.seq (P28 [1,0]) (P28 [1,1]):=by kernel_rfl
theorem k28_3:P28 [1,0]=.seq (P28 [1,0,0]) (P28 [1,0,1]):=by kernel_rfl
theorem k28_4:P28 [1,0,0]=.region 1 (O28 [1,0,0]) false:=by kernel_rfl
theorem r28_1 {Y0:Option Addr} {l0 y0:Nat} {M:Mem} {call:CallM} {K:Array Value→Mem→R} :
 opsK Try.prog (fun _=>call) (O28 [1,0,0]) (O28 [1,0,0]).toList 0 #[.slice Y0 l0 y0,g1,g2,g3,g4,g5,g6,g7,g8,g9,gA,gB,gC,gD,gE,gF,gG,gH,gI,gJ,gK,gL,gM,gN,gO,gP,gQ,gR,gS,gT,gU,gV,gW] M K=K #[.slice Y0 l0 y0,g1,g2,g3,g4,g5,g6,g7,g8,.slice Y0 l0 y0,.int .i64 ((l0:Int)),.bool (decide (((l0:Int))>256)),gC,gD,gE,gF,gG,gH,gI,gJ,gK,gL,gM,gN,gO,gP,gQ,gR,gS,gT,gU,gV,gW] M:=by kernel_rfl
theorem c28_5:P28 [1,0,1]=.cond (.tmp 11) (P28 [1,0,1,0]) (P28 [1,0,1,1]):=by kernel_rfl
theorem k28_6:P28 [1,0,1,0]=.seq (P28 [1,0,1,0,0]) (P28 [1,0,1,0,1]):=by kernel_rfl
theorem k28_7:P28 [1,0,1,0,0]=.region 2 (O28 [1,0,1,0,0]) false:=by kernel_rfl
theorem r28_2 {M:Mem} {call:CallM} {K:Array Value→Mem→R} :
 opsK Try.prog (fun _=>call) (O28 [1,0,1,0,0]) (O28 [1,0,1,0,0]).toList 0 #[g0,g1,g2,g3,g4,g5,g6,g7,g8,g9,gA,gB,gC,gD,gE,gF,gG,gH,gI,gJ,gK,gL,gM,gN,gO,gP,gQ,gR,gS,gT,gU,gV,gW] M K=K #[g0,g1,g2,g3,.int .i64 0,.int .i64 7,g6,g7,g8,g9,gA,gB,gC,gD,gE,gF,gG,gH,gI,gJ,gK,gL,gM,gN,gO,gP,gQ,gR,gS,gT,gU,gV,gW] M:=by kernel_rfl
theorem k28_8:P28 [1,0,1,0,1]=.ret:=by kernel_rfl
theorem e28 {M:Mem}:finish Try.prog Try.f28 #[g0,g1,g2,g3,g4,g5,g6,g7,g8,g9,gA,gB,gC,gD,gE,gF,gG,gH,gI,gJ,gK,gL,gM,gN,gO,gP,gQ,gR,gS,gT,gU,gV,gW] M=some (.tuple #[g4,g5],M):=by kernel_rfl
theorem k28_10:P28 [1,0,1,1]=.skip:=by kernel_rfl
theorem k28_11:P28 [1,1]=.seq (P28 [1,1,0]) (P28 [1,1,1]):=by kernel_rfl
theorem k28_12:P28 [1,1,0]=.region 3 (O28 [1,1,0]) false:=by kernel_rfl
theorem r28_3 {M:Mem} {call:CallM} {K:Array Value→Mem→R} :
 opsK Try.prog (fun _=>call) (O28 [1,1,0]) (O28 [1,1,0]).toList 0 #[g0,g1,g2,g3,g4,g5,g6,g7,g8,g9,gA,gB,gC,gD,gE,gF,gG,gH,gI,gJ,gK,gL,gM,gN,gO,gP,gQ,gR,gS,gT,gU,gV,gW] M K=K #[g0,g1,g2,g3,g4,g5,.int .i64 0,g7,g8,g9,gA,gB,gC,gD,gE,gF,gG,gH,gI,gJ,gK,gL,gM,gN,gO,gP,gQ,gR,gS,gT,gU,gV,gW] M:=by kernel_rfl
theorem k28_13:P28 [1,1,1]=.seq (P28 [1,1,1,0]) (P28 [1,1,1,1]):=by kernel_rfl
theorem k28_14:P28 [1,1,1,0]=.seq (P28 [1,1,1,0,0]) (P28 [1,1,1,0,1]):=by kernel_rfl
theorem k28_15:P28 [1,1,1,0,0]=.region 4 (O28 [1,1,1,0,0]) false:=by kernel_rfl
theorem r28_4 {Y0:Option Addr} {l0 y0:Nat} {M:Mem} {call:CallM} {K:Array Value→Mem→R} :
 opsK Try.prog (fun _=>call) (O28 [1,1,1,0,0]) (O28 [1,1,1,0,0]).toList 0 #[.slice Y0 l0 y0,g1,g2,g3,g4,g5,g6,g7,g8,g9,gA,gB,gC,gD,gE,gF,gG,gH,gI,gJ,gK,gL,gM,gN,gO,gP,gQ,gR,gS,gT,gU,gV,gW] M K=K #[.slice Y0 l0 y0,g1,g2,g3,g4,g5,g6,g7,g8,g9,gA,gB,.slice Y0 l0 y0,.int .i64 ((l0:Int)),.int .i64 0,gF,gG,gH,gI,gJ,gK,gL,gM,gN,gO,gP,gQ,gR,gS,gT,gU,gV,gW] M:=by kernel_rfl
theorem k28_16:P28 [1,1,1,0,1]=.block 0 (P28 [1,1,1,0,1,0]):=by kernel_rfl
theorem k28_17:P28 [1,1,1,0,1,0]=.loop (P28 [1,1,1,0,1,0,0]):=by kernel_rfl
theorem k28_18:P28 [1,1,1,0,1,0,0]=.seq (P28 [1,1,1,0,1,0,0,0]) (P28 [1,1,1,0,1,0,0,1]):=by kernel_rfl
theorem k28_19:P28 [1,1,1,0,1,0,0,0]=.region 5 (O28 [1,1,1,0,1,0,0,0]) false:=by kernel_rfl
theorem r28_5 {x13 x14:Int} {M:Mem} {call:CallM} {K:Array Value→Mem→R} :
 opsK Try.prog (fun _=>call) (O28 [1,1,1,0,1,0,0,0]) (O28 [1,1,1,0,1,0,0,0]).toList 0 #[g0,g1,g2,g3,g4,g5,g6,g7,g8,g9,gA,gB,gC,.int .i64 x13,.int .i64 x14,gF,gG,gH,gI,gJ,gK,gL,gM,gN,gO,gP,gQ,gR,gS,gT,gU,gV,gW] M K=K #[g0,g1,g2,g3,g4,g5,g6,g7,g8,g9,gA,gB,gC,.int .i64 x13,.int .i64 x14,.bool (decide (x14<x13)),gG,gH,gI,gJ,gK,gL,gM,gN,gO,gP,gQ,gR,gS,gT,gU,gV,gW] M:=by kernel_rfl
theorem k28_20:P28 [1,1,1,0,1,0,0,1]=.seq (P28 [1,1,1,0,1,0,0,1,0]) (P28 [1,1,1,0,1,0,0,1,1]):=by kernel_rfl
theorem c28_21:P28 [1,1,1,0,1,0,0,1,0]=.cond (.tmp 15) (P28 [1,1,1,0,1,0,0,1,0,0]) (P28 [1,1,1,0,1,0,0,1,0,1]):=by kernel_rfl
theorem k28_22:P28 [1,1,1,0,1,0,0,1,0,0]=.skip:=by kernel_rfl
theorem k28_23:P28 [1,1,1,0,1,0,0,1,1]=.seq (P28 [1,1,1,0,1,0,0,1,1,0]) (P28 [1,1,1,0,1,0,0,1,1,1]):=by kernel_rfl
theorem k28_24:P28 [1,1,1,0,1,0,0,1,1,0]=.block 1 (P28 [1,1,1,0,1,0,0,1,1,0,0]):=by kernel_rfl
theorem k28_25:P28 [1,1,1,0,1,0,0,1,1,0,0]=.seq (P28 [1,1,1,0,1,0,0,1,1,0,0,0]) (P28 [1,1,1,0,1,0,0,1,1,0,0,1]):=by kernel_rfl
theorem k28_26:P28 [1,1,1,0,1,0,0,1,1,0,0,0]=.region 6 (O28 [1,1,1,0,1,0,0,1,1,0,0,0]) false:=by kernel_rfl
theorem r28_6 {Y12:Option Addr} {l12 y12:Nat} {x14:Int} {M:Mem} {call:CallM} {K:Array Value→Mem→R} :
 opsK Try.prog (fun _=>call) (O28 [1,1,1,0,1,0,0,1,1,0,0,0]) (O28 [1,1,1,0,1,0,0,1,1,0,0,0]).toList 0 #[g0,g1,g2,g3,g4,g5,g6,g7,g8,g9,gA,gB,.slice Y12 l12 y12,gD,.int .i64 x14,gF,gG,gH,gI,gJ,gK,gL,gM,gN,gO,gP,gQ,gR,gS,gT,gU,gV,gW] M K=(idxA Y12 l12 1 x14).bind fun a_1=>(M.intAt .i64 a_1.block a_1.off).bind fun x_2=>K #[g0,g1,g2,g3,g4,g5,g6,g7,.int .i64 x_2,g9,gA,gB,.slice Y12 l12 y12,gD,.int .i64 x14,gF,.pointer (some a_1),.int .i64 x_2,gI,gJ,gK,gL,gM,gN,gO,gP,gQ,gR,gS,gT,gU,gV,gW] M:=by kernel_rfl
theorem k28_27:P28 [1,1,1,0,1,0,0,1,1,0,0,1]=.seq (P28 [1,1,1,0,1,0,0,1,1,0,0,1,0]) (P28 [1,1,1,0,1,0,0,1,1,0,0,1,1]):=by kernel_rfl
theorem k28_28:P28 [1,1,1,0,1,0,0,1,1,0,0,1,0]=.seq (P28 [1,1,1,0,1,0,0,1,1,0,0,1,0,0]) (P28 [1,1,1,0,1,0,0,1,1,0,0,1,0,1]):=by kernel_rfl
theorem k28_29:P28 [1,1,1,0,1,0,0,1,1,0,0,1,0,0]=.region 7 (O28 [1,1,1,0,1,0,0,1,1,0,0,1,0,0]) false:=by kernel_rfl
theorem r28_7 {x8:Int} {M:Mem} {call:CallM} {K:Array Value→Mem→R} :
 opsK Try.prog (fun _=>call) (O28 [1,1,1,0,1,0,0,1,1,0,0,1,0,0]) (O28 [1,1,1,0,1,0,0,1,1,0,0,1,0,0]).toList 0 #[g0,g1,g2,g3,g4,g5,g6,g7,.int .i64 x8,g9,gA,gB,gC,gD,gE,gF,gG,gH,gI,gJ,gK,gL,gM,gN,gO,gP,gQ,gR,gS,gT,gU,gV,gW] M K=K #[g0,g1,g2,g3,g4,g5,g6,g7,.int .i64 x8,g9,gA,gB,gC,gD,gE,gF,gG,gH,.int .i64 x8,.bool (decide (x8<0)),gK,gL,gM,gN,gO,gP,gQ,gR,gS,gT,gU,gV,gW] M:=by kernel_rfl
theorem c28_30:P28 [1,1,1,0,1,0,0,1,1,0,0,1,0,1]=.cond (.tmp 19) (P28 [1,1,1,0,1,0,0,1,1,0,0,1,0,1,0]) (P28 [1,1,1,0,1,0,0,1,1,0,0,1,0,1,1]):=by kernel_rfl
theorem k28_31:P28 [1,1,1,0,1,0,0,1,1,0,0,1,0,1,0]=.seq (P28 [1,1,1,0,1,0,0,1,1,0,0,1,0,1,0,0]) (P28 [1,1,1,0,1,0,0,1,1,0,0,1,0,1,0,1]):=by kernel_rfl
theorem k28_32:P28 [1,1,1,0,1,0,0,1,1,0,0,1,0,1,0,0]=.region 8 (O28 [1,1,1,0,1,0,0,1,1,0,0,1,0,1,0,0]) false:=by kernel_rfl
theorem r28_8 {M:Mem} {call:CallM} {K:Array Value→Mem→R} :
 opsK Try.prog (fun _=>call) (O28 [1,1,1,0,1,0,0,1,1,0,0,1,0,1,0,0]) (O28 [1,1,1,0,1,0,0,1,1,0,0,1,0,1,0,0]).toList 0 #[g0,g1,g2,g3,g4,g5,g6,g7,g8,g9,gA,gB,gC,gD,gE,gF,gG,gH,gI,gJ,gK,gL,gM,gN,gO,gP,gQ,gR,gS,gT,gU,gV,gW] M K=K #[g0,g1,g2,g3,.int .i64 0,.int .i64 2,g6,g7,g8,g9,gA,gB,gC,gD,gE,gF,gG,gH,gI,gJ,gK,gL,gM,gN,gO,gP,gQ,gR,gS,gT,gU,gV,gW] M:=by kernel_rfl
theorem k28_33:P28 [1,1,1,0,1,0,0,1,1,0,0,1,0,1,0,1]=.ret:=by kernel_rfl
theorem k28_34:P28 [1,1,1,0,1,0,0,1,1,0,0,1,0,1,1]=.skip:=by kernel_rfl
theorem k28_35:P28 [1,1,1,0,1,0,0,1,1,0,0,1,1]=.region 9 (O28 [1,1,1,0,1,0,0,1,1,0,0,1,1]) false:=by kernel_rfl
theorem r28_9 {x6 x8:Int} {M:Mem} {call:CallM} {K:Array Value→Mem→R} :
 opsK Try.prog (fun _=>call) (O28 [1,1,1,0,1,0,0,1,1,0,0,1,1]) (O28 [1,1,1,0,1,0,0,1,1,0,0,1,1]).toList 0 #[g0,g1,g2,g3,g4,g5,.int .i64 x6,g7,.int .i64 x8,g9,gA,gB,gC,gD,gE,gF,gG,gH,gI,gJ,gK,gL,gM,gN,gO,gP,gQ,gR,gS,gT,gU,gV,gW] M K=K #[g0,g1,g2,g3,g4,g5,.int .i64 (IntKind.i64.wrap (x6+(if 65537<x8 then 65537 else x8))),g7,.int .i64 x8,g9,gA,gB,gC,gD,gE,gF,gG,gH,gI,gJ,.int .i64 x6,.int .i64 x8,.int .i64 (if 65537<x8 then 65537 else x8),.int .i64 (IntKind.i64.wrap (x6+(if 65537<x8 then 65537 else x8))),gO,gP,gQ,gR,gS,gT,gU,gV,gW] M:=by kernel_rfl
theorem k28_36:P28 [1,1,1,0,1,0,0,1,1,1]=.region 10 (O28 [1,1,1,0,1,0,0,1,1,1]) false:=by kernel_rfl
theorem r28_10 {x14:Int} {M:Mem} {call:CallM} {K:Array Value→Mem→R} :
 opsK Try.prog (fun _=>call) (O28 [1,1,1,0,1,0,0,1,1,1]) (O28 [1,1,1,0,1,0,0,1,1,1]).toList 0 #[g0,g1,g2,g3,g4,g5,g6,g7,g8,g9,gA,gB,gC,gD,.int .i64 x14,gF,gG,gH,gI,gJ,gK,gL,gM,gN,gO,gP,gQ,gR,gS,gT,gU,gV,gW] M K=K #[g0,g1,g2,g3,g4,g5,g6,g7,g8,g9,gA,gB,gC,gD,.int .i64 (IntKind.i64.wrap (x14+1)),gF,gG,gH,gI,gJ,gK,gL,gM,gN,.int .i64 (IntKind.i64.wrap (x14+1)),gP,gQ,gR,gS,gT,gU,gV,gW] M:=by kernel_rfl
theorem k28_37:P28 [1,1,1,0,1,0,0,1,0,1]=.exit 0:=by kernel_rfl
theorem k28_38:P28 [1,1,1,1]=.seq (P28 [1,1,1,1,0]) (P28 [1,1,1,1,1]):=by kernel_rfl
theorem k28_39:P28 [1,1,1,1,0]=.block 2 (P28 [1,1,1,1,0,0]):=by kernel_rfl
theorem k28_40:P28 [1,1,1,1,0,0]=.seq (P28 [1,1,1,1,0,0,0]) (P28 [1,1,1,1,0,0,1]):=by kernel_rfl
theorem k28_41:P28 [1,1,1,1,0,0,0]=.region 11 (O28 [1,1,1,1,0,0,0]) false:=by kernel_rfl
theorem r28_11 {x6:Int} {M:Mem} {call:CallM} {K:Array Value→Mem→R} :
 opsK Try.prog (fun _=>call) (O28 [1,1,1,1,0,0,0]) (O28 [1,1,1,1,0,0,0]).toList 0 #[g0,g1,g2,g3,g4,g5,.int .i64 x6,g7,g8,g9,gA,gB,gC,gD,gE,gF,gG,gH,gI,gJ,gK,gL,gM,gN,gO,gP,gQ,gR,gS,gT,gU,gV,gW] M K=K #[g0,g1,g2,g3,g4,g5,.int .i64 x6,g7,g8,g9,gA,gB,gC,gD,gE,gF,gG,gH,gI,gJ,gK,gL,gM,gN,gO,.bool (decide (x6>65536)),.int .i64 x6,.bool (decide (x6>65536)),gS,gT,gU,gV,gW] M:=by kernel_rfl
theorem c28_42:P28 [1,1,1,1,0,0,1]=.cond (.tmp 25) (P28 [1,1,1,1,0,0,1,0]) (P28 [1,1,1,1,0,0,1,1]):=by kernel_rfl
theorem k28_43:P28 [1,1,1,1,0,0,1,0]=.seq (P28 [1,1,1,1,0,0,1,0,0]) (P28 [1,1,1,1,0,0,1,0,1]):=by kernel_rfl
theorem k28_44:P28 [1,1,1,1,0,0,1,0,0]=.region 12 (O28 [1,1,1,1,0,0,1,0,0]) false:=by kernel_rfl
theorem r28_12 {M:Mem} {call:CallM} {K:Array Value→Mem→R} :
 opsK Try.prog (fun _=>call) (O28 [1,1,1,1,0,0,1,0,0]) (O28 [1,1,1,1,0,0,1,0,0]).toList 0 #[g0,g1,g2,g3,g4,g5,g6,g7,g8,g9,gA,gB,gC,gD,gE,gF,gG,gH,gI,gJ,gK,gL,gM,gN,gO,gP,gQ,gR,gS,gT,gU,gV,gW] M K=K #[g0,g1,g2,g3,.int .i64 0,.int .i64 7,g6,g7,g8,g9,gA,gB,gC,gD,gE,gF,gG,gH,gI,gJ,gK,gL,gM,gN,gO,gP,gQ,gR,gS,gT,gU,gV,gW] M:=by kernel_rfl
theorem k28_45:P28 [1,1,1,1,0,0,1,0,1]=.ret:=by kernel_rfl
theorem k28_46:P28 [1,1,1,1,0,0,1,1]=.seq (P28 [1,1,1,1,0,0,1,1,0]) (P28 [1,1,1,1,0,0,1,1,1]):=by kernel_rfl
theorem k28_47:P28 [1,1,1,1,0,0,1,1,0]=.region 13 (O28 [1,1,1,1,0,0,1,1,0]) false:=by kernel_rfl
theorem r28_13 {x1:Int} {M:Mem} {call:CallM} {K:Array Value→Mem→R} :
 opsK Try.prog (fun _=>call) (O28 [1,1,1,1,0,0,1,1,0]) (O28 [1,1,1,1,0,0,1,1,0]).toList 0 #[g0,.int .i64 x1,g2,g3,g4,g5,g6,g7,g8,g9,gA,gB,gC,gD,gE,gF,gG,gH,gI,gJ,gK,gL,gM,gN,gO,gP,gQ,gR,gS,gT,gU,gV,gW] M K=(call 35 #[.int .i64 x1,.int .i64 1,.int .i64 64] M).bind fun r_1=>(asB r_1.1).bind fun b_2=>K #[g0,.int .i64 x1,g2,g3,g4,g5,g6,g7,g8,g9,gA,gB,gC,gD,gE,gF,gG,gH,gI,gJ,gK,gL,gM,gN,gO,gP,gQ,gR,.bool (!b_2),.int .i64 x1,.bool b_2,.bool (!b_2),gW] r_1.2:=by kernel_rfl
theorem c28_48:P28 [1,1,1,1,0,0,1,1,1]=.cond (.tmp 28) (P28 [1,1,1,1,0,0,1,1,1,0]) (P28 [1,1,1,1,0,0,1,1,1,1]):=by kernel_rfl
theorem k28_49:P28 [1,1,1,1,0,0,1,1,1,0]=.seq (P28 [1,1,1,1,0,0,1,1,1,0,0]) (P28 [1,1,1,1,0,0,1,1,1,0,1]):=by kernel_rfl
theorem k28_50:P28 [1,1,1,1,0,0,1,1,1,0,0]=.region 14 (O28 [1,1,1,1,0,0,1,1,1,0,0]) false:=by kernel_rfl
theorem r28_14 {M:Mem} {call:CallM} {K:Array Value→Mem→R} :
 opsK Try.prog (fun _=>call) (O28 [1,1,1,1,0,0,1,1,1,0,0]) (O28 [1,1,1,1,0,0,1,1,1,0,0]).toList 0 #[g0,g1,g2,g3,g4,g5,g6,g7,g8,g9,gA,gB,gC,gD,gE,gF,gG,gH,gI,gJ,gK,gL,gM,gN,gO,gP,gQ,gR,gS,gT,gU,gV,gW] M K=K #[g0,g1,g2,g3,.int .i64 0,.int .i64 2,g6,g7,g8,g9,gA,gB,gC,gD,gE,gF,gG,gH,gI,gJ,gK,gL,gM,gN,gO,gP,gQ,gR,gS,gT,gU,gV,gW] M:=by kernel_rfl
theorem k28_51:P28 [1,1,1,1,0,0,1,1,1,0,1]=.ret:=by kernel_rfl
theorem k28_52:P28 [1,1,1,1,0,0,1,1,1,1]=.skip:=by kernel_rfl
theorem k28_53:P28 [1,1,1,1,1]=.seq (P28 [1,1,1,1,1,0]) (P28 [1,1,1,1,1,1]):=by kernel_rfl
theorem k28_54:P28 [1,1,1,1,1,0]=.region 15 (O28 [1,1,1,1,1,0]) false:=by kernel_rfl
theorem r28_15 {x6:Int} {M:Mem} {call:CallM} {K:Array Value→Mem→R} :
 opsK Try.prog (fun _=>call) (O28 [1,1,1,1,1,0]) (O28 [1,1,1,1,1,0]).toList 0 #[g0,g1,g2,g3,g4,g5,.int .i64 x6,g7,g8,g9,gA,gB,gC,gD,gE,gF,gG,gH,gI,gJ,gK,gL,gM,gN,gO,gP,gQ,gR,gS,gT,gU,gV,gW] M K=K #[g0,g1,g2,g3,.int .i64 x6,.int .i64 0,.int .i64 x6,g7,g8,g9,gA,gB,gC,gD,gE,gF,gG,gH,gI,gJ,gK,gL,gM,gN,gO,gP,gQ,gR,gS,gT,gU,gV,.int .i64 x6] M:=by kernel_rfl
theorem k28_55:P28 [1,1,1,1,1,1]=.ret:=by kernel_rfl
noncomputable def S28_1:List Item:=[.code (P28 [1,1,1,0,1,0,0]),.inLoop (P28 [1,1,1,0,1,0,0]),.inBlock 0,.code (P28 [1,1,1,1])]
def A28_1 (x1 x6:Int) (Y12:Option Addr) (l12 y12:Nat) (x13 x14:Int) (M:Mem) (Q:Value→Mem→Prop):Prop:=∀ (g0 g2 g3 g4 g5 g7 g8 g9 gA gB gF gG gH gI gJ gK gL gM gN gO gP gQ gR gS gT gU gV gW:Value),Rn Try.prog Try.f28 S28_1 #[g0,.int .i64 x1,g2,g3,g4,g5,.int .i64 x6,g7,g8,g9,gA,gB,.slice Y12 l12 y12,.int .i64 x13,.int .i64 x14,gF,gG,gH,gI,gJ,gK,gL,gM,gN,gO,gP,gQ,gR,gS,gT,gU,gV,gW] M Q
theorem w28_0 {Y0:Option Addr} {l0 y0:Nat} {x1:Int} {M:Mem} {Q:Value→Mem→Prop} (H :
 ((((l0:Int))>256→
 Q (.tuple #[.int .i64 0,.int .i64 7]) M)∧
 (¬(((l0:Int))>256)→
 A28_1 x1 0 Y0 l0 y0 (l0:Int) 0 M Q))):
 Cn Try.prog 28 #[.slice Y0 l0 y0,.int .i64 x1] M Q:=by
  refine Cn.of b28 d28 t28 ?_
  refine Rn.seq k28_0 (Rn.region k28_1 (fun call K=>r28_0) (Rch.leaf (Rn.seq k28_2 (Rn.seq k28_3 (Rn.region k28_4 (fun call K=>r28_1) (Rch.leaf ?_))))))
  refine Rn.cnd (v:=decide (((l0:Int))>256)) ⟨c28_5,rfl,by kernel_rfl⟩ (fun h=>?_) (fun h=>?_)
  · replace H:=H.1 (of_decide_eq_true h)
    refine Rn.seq k28_6 (Rn.region k28_7 (fun call K=>r28_2) (Rch.leaf ?_))
    exact Rn.ret k28_8 e28 H
  · replace H:=H.2 (of_decide_eq_false h)
    refine Rn.skip k28_10 (Rn.seq k28_11 (Rn.region k28_12 (fun call K=>r28_3) (Rch.leaf (Rn.seq k28_13 (Rn.seq k28_14 (Rn.region k28_15 (fun call K=>r28_4) (Rch.leaf (Rn.block k28_16 (Rn.loop k28_17 ?_)))))))))
    exact H ..
theorem w28_1 {x1 x6:Int} {Y12:Option Addr} {l12 y12:Nat} {x13 x14:Int} {M:Mem} {Q:Value→Mem→Prop} (H :
 ((x14<x13→
 ∃a1',idxA Y12 l12 1 x14=some a1'∧
 ∃x2',M.intAt .i64 a1'.block a1'.off=some x2'∧
 ((x2'<0→
 Q (.tuple #[.int .i64 0,.int .i64 2]) M)∧
 (¬(x2'<0)→
 A28_1 x1 (IntKind.i64.wrap (x6+(if 65537<x2' then 65537 else x2'))) Y12 l12 y12 x13 (IntKind.i64.wrap (x14+1)) M Q)))∧
 (¬(x14<x13)→
 ((x6>65536→
 Q (.tuple #[.int .i64 0,.int .i64 7]) M)∧
 (¬(x6>65536)→
 Cn Try.prog 35 #[.int .i64 x1,.int .i64 1,.int .i64 64] M fun v3' N3'=>
 ∃b4',asB v3'=some b4'∧
 (((!b4')=true→
 Q (.tuple #[.int .i64 0,.int .i64 2]) N3')∧
 ((!b4')=false→
 Q (.tuple #[.int .i64 x6,.int .i64 0]) N3'))))))):
 A28_1 x1 x6 Y12 l12 y12 x13 x14 M Q:=by
  iterate 28 intro _
  refine Rn.seq k28_18 (Rn.region k28_19 (fun call K=>r28_5) (Rch.leaf (Rn.seq k28_20 ?_)))
  refine Rn.cnd (v:=decide (x14<x13)) ⟨c28_21,rfl,by kernel_rfl⟩ (fun h=>?_) (fun h=>?_)
  · replace H:=H.1 (of_decide_eq_true h)
    refine Rn.skip k28_22 (Rn.seq k28_23 (Rn.block k28_24 (Rn.seq k28_25 (Rn.region k28_26 (fun call K=>r28_6) (Rch.ex H fun a1' H=>Rch.ex H fun x2' H=>Rch.leaf (Rn.seq k28_27 (Rn.seq k28_28 (Rn.region k28_29 (fun call K=>r28_7) (Rch.leaf ?_)))))))))
    refine Rn.cnd (v:=decide (x2'<0)) ⟨c28_30,rfl,by kernel_rfl⟩ (fun h=>?_) (fun h=>?_)
    · replace H:=H.1 (of_decide_eq_true h)
      refine Rn.seq k28_31 (Rn.region k28_32 (fun call K=>r28_8) (Rch.leaf ?_))
      exact Rn.ret k28_33 e28 H
    · replace H:=H.2 (of_decide_eq_false h)
      refine Rn.skip k28_34 (Rn.region k28_35 (fun call K=>r28_9) (Rch.leaf (Rn.blk (Rn.region k28_36 (fun call K=>r28_10) (Rch.leaf (Rn.lp ?_))))))
      exact H ..
  · replace H:=H.2 (of_decide_eq_false h)
    refine Rn.exit k28_37 rfl (Rn.seq k28_38 (Rn.block k28_39 (Rn.seq k28_40 (Rn.region k28_41 (fun call K=>r28_11) (Rch.leaf ?_)))))
    refine Rn.cnd (v:=decide (x6>65536)) ⟨c28_42,rfl,by kernel_rfl⟩ (fun h=>?_) (fun h=>?_)
    · replace H:=H.1 (of_decide_eq_true h)
      refine Rn.seq k28_43 (Rn.region k28_44 (fun call K=>r28_12) (Rch.leaf ?_))
      exact Rn.ret k28_45 e28 H
    · replace H:=H.2 (of_decide_eq_false h)
      refine Rn.seq k28_46 (Rn.region k28_47 (fun call K=>r28_13) (Rch.call H fun v3' N3' H=>Rch.ex H fun b4' H=>Rch.leaf ?_))
      refine Rn.cnd (v:=!b4') ⟨c28_48,rfl,by kernel_rfl⟩ (fun h=>?_) (fun h=>?_)
      · replace H:=H.1 (h)
        refine Rn.seq k28_49 (Rn.region k28_50 (fun call K=>r28_14) (Rch.leaf ?_))
        exact Rn.ret k28_51 e28 H
      · replace H:=H.2 (h)
        refine Rn.skip k28_52 (Rn.blk (Rn.seq k28_53 (Rn.region k28_54 (fun call K=>r28_15) (Rch.leaf ?_))))
        exact Rn.ret k28_55 e28 H
noncomputable abbrev P29 (p:List Nat):Code:=subC (codeOf Try.f29) p
noncomputable abbrev O29 (p:List Nat):Array Oper:=opsOf (subC (codeOf Try.f29) p)
theorem b29:Try.prog.funcs[29]?=some Try.f29∧(Orc.tab Try.prog).lookup 29=none:=⟨by kernel_rfl,by kernel_rfl⟩
theorem d29:Try.f29.body=some (P29 []):=by kernel_rfl
theorem t29 {Y0:Option Addr} {l0 y0:Nat}:#[.slice Y0 l0 y0] ++ Array.replicate (Try.f29.ntmps-(#[.slice Y0 l0 y0]:Array Value).size) undef=#[.slice Y0 l0 y0,undef,undef,undef,undef,undef,undef,undef]:=by kernel_rfl
theorem k29_0:P29 []=.seq (P29 [0]) (P29 [1]):=by kernel_rfl
theorem k29_1:P29 [0]=.region 0 (O29 [0]) false:=by kernel_rfl
theorem r29_0 {M:Mem} {call:CallM} {K:Array Value→Mem→R} :
 opsK Try.prog (fun _=>call) (O29 [0]) (O29 [0]).toList 0 #[g0,g1,g2,g3,g4,g5,g6,g7] M K=K #[g0,g1,.slice none 0 0,g3,g4,g5,g6,g7] M:=by kernel_rfl
theorem k29_2:P29 [1]=.seq (P29 [1,0]) (P29 [1,1]):=by kernel_rfl
theorem k29_3:P29 [1,0]=.seq (P29 [1,0,0]) (P29 [1,0,1]):=by kernel_rfl
theorem k29_4:P29 [1,0,0]=.region 1 (O29 [1,0,0]) false:=by kernel_rfl
theorem r29_1 {Y0:Option Addr} {l0 y0:Nat} {M:Mem} {call:CallM} {K:Array Value→Mem→R} :
 opsK Try.prog (fun _=>call) (O29 [1,0,0]) (O29 [1,0,0]).toList 0 #[.slice Y0 l0 y0,g1,g2,g3,g4,g5,g6,g7] M K=K #[.slice Y0 l0 y0,g1,g2,.slice Y0 l0 y0,.bool Y0.isNone,g5,g6,g7] M:=by kernel_rfl
theorem c29_5:P29 [1,0,1]=.cond (.tmp 4) (P29 [1,0,1,0]) (P29 [1,0,1,1]):=by kernel_rfl
theorem k29_6:P29 [1,0,1,0]=.seq (P29 [1,0,1,0,0]) (P29 [1,0,1,0,1]):=by kernel_rfl
theorem k29_7:P29 [1,0,1,0,0]=.region 2 (O29 [1,0,1,0,0]) false:=by kernel_rfl
theorem r29_2 {M:Mem} {call:CallM} {K:Array Value→Mem→R} :
 opsK Try.prog (fun _=>call) (O29 [1,0,1,0,0]) (O29 [1,0,1,0,0]).toList 0 #[g0,g1,g2,g3,g4,g5,g6,g7] M K=K #[g0,g1,.slice none 0 0,g3,g4,g5,g6,g7] M:=by kernel_rfl
theorem k29_8:P29 [1,0,1,0,1]=.ret:=by kernel_rfl
theorem e29 {M:Mem}:finish Try.prog Try.f29 #[g0,g1,g2,g3,g4,g5,g6,g7] M=some (g2,M):=by kernel_rfl
theorem k29_10:P29 [1,0,1,1]=.skip:=by kernel_rfl
theorem k29_11:P29 [1,1]=.seq (P29 [1,1,0]) (P29 [1,1,1]):=by kernel_rfl
theorem k29_12:P29 [1,1,0]=.region 3 (O29 [1,1,0]) false:=by kernel_rfl
theorem r29_3 {Y0:Option Addr} {l0 y0:Nat} {M:Mem} {call:CallM} {K:Array Value→Mem→R} :
 opsK Try.prog (fun _=>call) (O29 [1,1,0]) (O29 [1,1,0]).toList 0 #[.slice Y0 l0 y0,g1,g2,g3,g4,g5,g6,g7] M K=(appendP Try.prog #[22,22] (.slice (some ⟨2*M.nb.size,0,none⟩) 0 0) (.slice Y0 l0 y0) (M.new (.cells #[] 3))).bind fun r_1=>(asS r_1.1).bind fun s_2=>K #[.slice Y0 l0 y0,g1,.slice s_2.1 (s_2.2.1) (s_2.2.2),g3,g4,.slice (some ⟨2*M.nb.size,0,none⟩) 0 0,.slice Y0 l0 y0,.slice s_2.1 (s_2.2.1) (s_2.2.2)] r_1.2:=by kernel_rfl
theorem k29_13:P29 [1,1,1]=.ret:=by kernel_rfl
theorem w29_0 {Y0:Option Addr} {l0 y0:Nat} {M:Mem} {Q:Value→Mem→Prop} (H :
 ((Y0.isNone=true→
 Q (.slice none 0 0) M)∧
 (Y0.isNone=false→
 ∃r1',appendP Try.prog #[22,22] (.slice (some ⟨2*M.nb.size,0,none⟩) 0 0) (.slice Y0 l0 y0) (M.new (.cells #[] 3))=some r1'∧
 ∃s2',asS r1'.1=some s2'∧
 Q (.slice s2'.1 (s2'.2.1) (s2'.2.2)) r1'.2))):
 Cn Try.prog 29 #[.slice Y0 l0 y0] M Q:=by
  refine Cn.of b29 d29 t29 ?_
  refine Rn.seq k29_0 (Rn.region k29_1 (fun call K=>r29_0) (Rch.leaf (Rn.seq k29_2 (Rn.seq k29_3 (Rn.region k29_4 (fun call K=>r29_1) (Rch.leaf ?_))))))
  refine Rn.cnd (v:=Y0.isNone) ⟨c29_5,rfl,by kernel_rfl⟩ (fun h=>?_) (fun h=>?_)
  · replace H:=H.1 (h)
    refine Rn.seq k29_6 (Rn.region k29_7 (fun call K=>r29_2) (Rch.leaf ?_))
    exact Rn.ret k29_8 e29 H
  · replace H:=H.2 (h)
    refine Rn.skip k29_10 (Rn.seq k29_11 (Rn.region k29_12 (fun call K=>r29_3) (Rch.ex H fun r1' H=>Rch.ex H fun s2' H=>Rch.leaf ?_)))
    exact Rn.ret k29_13 e29 H
noncomputable abbrev P30 (p:List Nat):Code:=subC (codeOf Try.f30) p
noncomputable abbrev O30 (p:List Nat):Array Oper:=opsOf (subC (codeOf Try.f30) p)
theorem b30:Try.prog.funcs[30]?=some Try.f30∧(Orc.tab Try.prog).lookup 30=none:=⟨by kernel_rfl,by kernel_rfl⟩
theorem d30:Try.f30.body=some (P30 []):=by kernel_rfl
theorem t30 {Y0:Option Addr} {l0 y0:Nat} {x1 x2:Int}:#[.slice Y0 l0 y0,.int .i64 x1,.int .i64 x2] ++ Array.replicate (Try.f30.ntmps-(#[.slice Y0 l0 y0,.int .i64 x1,.int .i64 x2]:Array Value).size) undef=#[.slice Y0 l0 y0,.int .i64 x1,.int .i64 x2,undef,undef,undef,undef,undef,undef,undef,undef,undef,undef,undef,undef,undef,undef,undef,undef,undef,undef,undef,undef,undef,undef,undef,undef,undef,undef,undef,undef,undef,undef]:=by kernel_rfl
theorem k30_0:P30 []=.seq (P30 [0]) (P30 [1]):=by kernel_rfl
theorem k30_1:P30 [0]=.region 0 (O30 [0]) false:=by kernel_rfl
theorem r30_0 {M:Mem} {call:CallM} {K:Array Value→Mem→R} :
 opsK Try.prog (fun _=>call) (O30 [0]) (O30 [0]).toList 0 #[g0,g1,g2,g3,g4,g5,g6,g7,g8,g9,gA,gB,gC,gD,gE,gF,gG,gH,gI,gJ,gK,gL,gM,gN,gO,gP,gQ,gR,gS,gT,gU,gV,gW] M K=K #[g0,g1,g2,g3,g4,g5,.slice none 0 0,g7,g8,g9,gA,gB,gC,gD,gE,gF,gG,gH,gI,gJ,gK,gL,gM,gN,gO,gP,gQ,gR,gS,gT,gU,gV,gW] M:=by kernel_rfl
theorem k30_2:P30 [1]=.seq (P30 [1,0]) (P30 [1,1]):=by kernel_rfl
theorem k30_3:P30 [1,0]=.region 1 (O30 [1,0]) false:=by kernel_rfl
theorem r30_1 {Y0:Option Addr} {l0 y0:Nat} {x1 x2:Int} {M:Mem} {call:CallM} {K:Array Value→Mem→R} :
 opsK Try.prog (fun _=>call) (O30 [1,0]) (O30 [1,0]).toList 0 #[.slice Y0 l0 y0,.int .i64 x1,.int .i64 x2,g3,g4,g5,g6,g7,g8,g9,gA,gB,gC,gD,gE,gF,gG,gH,gI,gJ,gK,gL,gM,gN,gO,gP,gQ,gR,gS,gT,gU,gV,gW] M K=(sliceP Try.prog 22 (.slice Y0 l0 y0) (some (.int .i64 x1)) (some (.int .i64 x2)) (some (.int .i64 ((l0:Int))))).bind fun v_1=>(asS v_1).bind fun s_2=>K #[.slice Y0 l0 y0,.int .i64 x1,.int .i64 x2,g3,g4,g5,g6,g7,.slice Y0 l0 y0,.int .i64 x1,.int .i64 x2,.slice Y0 l0 y0,.int .i64 ((l0:Int)),.slice s_2.1 (s_2.2.1) (s_2.2.2),gE,gF,gG,gH,gI,gJ,gK,gL,gM,gN,gO,gP,gQ,gR,gS,gT,gU,gV,gW] M:=by kernel_rfl
theorem k30_4:P30 [1,1]=.seq (P30 [1,1,0]) (P30 [1,1,1]):=by kernel_rfl
theorem k30_5:P30 [1,1,0]=.seq (P30 [1,1,0,0]) (P30 [1,1,0,1]):=by kernel_rfl
theorem k30_6:P30 [1,1,0,0]=.region 2 (O30 [1,1,0,0]) false:=by kernel_rfl
theorem r30_2 {x1 x2:Int} {M:Mem} {call:CallM} {K:Array Value→Mem→R} :
 opsK Try.prog (fun _=>call) (O30 [1,1,0,0]) (O30 [1,1,0,0]).toList 0 #[g0,.int .i64 x1,.int .i64 x2,g3,g4,g5,g6,g7,g8,g9,gA,gB,gC,gD,gE,gF,gG,gH,gI,gJ,gK,gL,gM,gN,gO,gP,gQ,gR,gS,gT,gU,gV,gW] M K=K #[g0,.int .i64 x1,.int .i64 x2,g3,g4,g5,g6,g7,g8,g9,gA,gB,gC,gD,.int .i64 x1,.int .i64 x2,.bool (x1 == x2),gH,gI,gJ,gK,gL,gM,gN,gO,gP,gQ,gR,gS,gT,gU,gV,gW] M:=by kernel_rfl
theorem c30_7:P30 [1,1,0,1]=.cond (.tmp 16) (P30 [1,1,0,1,0]) (P30 [1,1,0,1,1]):=by kernel_rfl
theorem k30_8:P30 [1,1,0,1,0]=.seq (P30 [1,1,0,1,0,0]) (P30 [1,1,0,1,0,1]):=by kernel_rfl
theorem k30_9:P30 [1,1,0,1,0,0]=.region 3 (O30 [1,1,0,1,0,0]) false:=by kernel_rfl
theorem r30_3 {Y0:Option Addr} {l0 y0:Nat} {M:Mem} {call:CallM} {K:Array Value→Mem→R} :
 opsK Try.prog (fun _=>call) (O30 [1,1,0,1,0,0]) (O30 [1,1,0,1,0,0]).toList 0 #[.slice Y0 l0 y0,g1,g2,g3,g4,g5,g6,g7,g8,g9,gA,gB,gC,gD,gE,gF,gG,gH,gI,gJ,gK,gL,gM,gN,gO,gP,gQ,gR,gS,gT,gU,gV,gW] M K=K #[.slice Y0 l0 y0,g1,g2,g3,g4,g5,.slice Y0 l0 y0,g7,g8,g9,gA,gB,gC,gD,gE,gF,gG,.slice Y0 l0 y0,gI,gJ,gK,gL,gM,gN,gO,gP,gQ,gR,gS,gT,gU,gV,gW] M:=by kernel_rfl
theorem k30_10:P30 [1,1,0,1,0,1]=.ret:=by kernel_rfl
theorem e30 {M:Mem}:finish Try.prog Try.f30 #[g0,g1,g2,g3,g4,g5,g6,g7,g8,g9,gA,gB,gC,gD,gE,gF,gG,gH,gI,gJ,gK,gL,gM,gN,gO,gP,gQ,gR,gS,gT,gU,gV,gW] M=some (g6,M):=by kernel_rfl
theorem k30_12:P30 [1,1,0,1,1]=.skip:=by kernel_rfl
theorem k30_13:P30 [1,1,1]=.seq (P30 [1,1,1,0]) (P30 [1,1,1,1]):=by kernel_rfl
theorem k30_14:P30 [1,1,1,0]=.region 4 (O30 [1,1,1,0]) false:=by kernel_rfl
theorem r30_4 {Y0:Option Addr} {l0 y0:Nat} {M:Mem} {call:CallM} {K:Array Value→Mem→R} :
 opsK Try.prog (fun _=>call) (O30 [1,1,1,0]) (O30 [1,1,1,0]).toList 0 #[.slice Y0 l0 y0,g1,g2,g3,g4,g5,g6,g7,g8,g9,gA,gB,gC,gD,gE,gF,gG,gH,gI,gJ,gK,gL,gM,gN,gO,gP,gQ,gR,gS,gT,gU,gV,gW] M K=K #[.slice Y0 l0 y0,g1,g2,g3,g4,g5,g6,.int .i64 ((l0:Int)),g8,g9,gA,gB,gC,gD,gE,gF,gG,gH,.slice Y0 l0 y0,.int .i64 ((l0:Int)),gK,gL,gM,gN,gO,gP,gQ,gR,gS,gT,gU,gV,gW] M:=by kernel_rfl
theorem k30_15:P30 [1,1,1,1]=.seq (P30 [1,1,1,1,0]) (P30 [1,1,1,1,1]):=by kernel_rfl
theorem k30_16:P30 [1,1,1,1,0]=.region 5 (O30 [1,1,1,1,0]) true∧drawOk (O30 [1,1,1,1,0])=true:=⟨by kernel_rfl,by kernel_rfl⟩
theorem r30_5 {Y0:Option Addr} {l0 y0:Nat} {x1 x2:Int} {M:Mem} {call:CallM} {K:Array Value→Mem→R} :
    opsI Try.prog (callAt call (O30 [1,1,1,1,0])) (O30 [1,1,1,1,0]) (ordOf (O30 [1,1,1,1,0])) [] #[.slice Y0 l0 y0,.int .i64 x1,.int .i64 x2,g3,g4,g5,g6,g7,g8,g9,gA,gB,gC,gD,gE,gF,gG,gH,gI,gJ,gK,gL,gM,gN,gO,gP,gQ,gR,gS,gT,gU,gV,gW] M K=(sliceP Try.prog 22 (.slice Y0 l0 y0) none (some (.int .i64 x1)) none).bind fun v_1=>(asS v_1).bind fun s_2=>(sliceP Try.prog 22 (.slice Y0 l0 y0) (some (.int .i64 x2)) none none).bind fun v_3=>(asS v_3).bind fun s_4=>(appendP Try.prog #[22,22] (.slice s_2.1 (s_2.2.1) (s_2.2.2)) (.slice s_4.1 (s_4.2.1) (s_4.2.2)) M).bind fun r_5=>(asS r_5.1).bind fun s_6=>K #[.slice s_6.1 (s_6.2.1) (s_6.2.2),.int .i64 x1,.int .i64 x2,g3,g4,g5,g6,g7,g8,g9,gA,gB,gC,gD,gE,gF,gG,gH,gI,gJ,.slice Y0 l0 y0,.int .i64 x1,.slice s_2.1 (s_2.2.1) (s_2.2.2),.slice Y0 l0 y0,.int .i64 x2,.slice s_4.1 (s_4.2.1) (s_4.2.2),.slice s_6.1 (s_6.2.1) (s_6.2.2),gR,gS,gT,gU,gV,gW] r_5.2:=by kernel_rfl
theorem k30_17:P30 [1,1,1,1,1]=.seq (P30 [1,1,1,1,1,0]) (P30 [1,1,1,1,1,1]):=by kernel_rfl
theorem k30_18:P30 [1,1,1,1,1,0]=.region 6 (O30 [1,1,1,1,1,0]) false:=by kernel_rfl
theorem r30_6 {Y0:Option Addr} {l0 y0:Nat} {x7:Int} {M:Mem} {call:CallM} {K:Array Value→Mem→R} :
 opsK Try.prog (fun _=>call) (O30 [1,1,1,1,1,0]) (O30 [1,1,1,1,1,0]).toList 0 #[.slice Y0 l0 y0,g1,g2,g3,g4,g5,g6,.int .i64 x7,g8,g9,gA,gB,gC,gD,gE,gF,gG,gH,gI,gJ,gK,gL,gM,gN,gO,gP,gQ,gR,gS,gT,gU,gV,gW] M K=(sliceP Try.prog 22 (.slice Y0 l0 y0) (some (.int .i64 ((l0:Int)))) (some (.int .i64 x7)) none).bind fun v_1=>(asS v_1).bind fun s_2=>(clearV Try.prog #[22] (.slice s_2.1 (s_2.2.1) (s_2.2.2)) M).bind fun r_3=>K #[.slice Y0 l0 y0,g1,g2,g3,g4,g5,g6,.int .i64 x7,g8,g9,gA,gB,gC,gD,gE,gF,gG,gH,gI,gJ,gK,gL,gM,gN,gO,gP,gQ,.slice Y0 l0 y0,.slice Y0 l0 y0,.int .i64 ((l0:Int)),.int .i64 x7,.slice s_2.1 (s_2.2.1) (s_2.2.2),gW] r_3.2:=by kernel_rfl
theorem k30_19:P30 [1,1,1,1,1,1]=.seq (P30 [1,1,1,1,1,1,0]) (P30 [1,1,1,1,1,1,1]):=by kernel_rfl
theorem k30_20:P30 [1,1,1,1,1,1,0]=.region 7 (O30 [1,1,1,1,1,1,0]) false:=by kernel_rfl
theorem r30_7 {Y0:Option Addr} {l0 y0:Nat} {M:Mem} {call:CallM} {K:Array Value→Mem→R} :
 opsK Try.prog (fun _=>call) (O30 [1,1,1,1,1,1,0]) (O30 [1,1,1,1,1,1,0]).toList 0 #[.slice Y0 l0 y0,g1,g2,g3,g4,g5,g6,g7,g8,g9,gA,gB,gC,gD,gE,gF,gG,gH,gI,gJ,gK,gL,gM,gN,gO,gP,gQ,gR,gS,gT,gU,gV,gW] M K=K #[.slice Y0 l0 y0,g1,g2,g3,g4,g5,.slice Y0 l0 y0,g7,g8,g9,gA,gB,gC,gD,gE,gF,gG,gH,gI,gJ,gK,gL,gM,gN,gO,gP,gQ,gR,gS,gT,gU,gV,.slice Y0 l0 y0] M:=by kernel_rfl
theorem k30_21:P30 [1,1,1,1,1,1,1]=.ret:=by kernel_rfl
theorem w30_0 {Y0:Option Addr} {l0 y0:Nat} {x1 x2:Int} {M:Mem} {Q:Value→Mem→Prop} (H :
 ∃v1',sliceP Try.prog 22 (.slice Y0 l0 y0) (some (.int .i64 x1)) (some (.int .i64 x2)) (some (.int .i64 ((l0:Int))))=some v1'∧
 ∃s2',asS v1'=some s2'∧
 ((x1=x2→
 Q (.slice Y0 l0 y0) M)∧
 (x1≠x2→
 ∃v3',sliceP Try.prog 22 (.slice Y0 l0 y0) none (some (.int .i64 x1)) none=some v3'∧
 ∃s4',asS v3'=some s4'∧
 ∃v5',sliceP Try.prog 22 (.slice Y0 l0 y0) (some (.int .i64 x2)) none none=some v5'∧
 ∃s6',asS v5'=some s6'∧
 ∃r7',appendP Try.prog #[22,22] (.slice s4'.1 (s4'.2.1) (s4'.2.2)) (.slice s6'.1 (s6'.2.1) (s6'.2.2)) M=some r7'∧
 ∃s8',asS r7'.1=some s8'∧
 ∃v9',sliceP Try.prog 22 (.slice s8'.1 s8'.2.1 s8'.2.2) (some (.int .i64 ((s8'.2.1:Int)))) (some (.int .i64 (l0:Int))) none=some v9'∧
 ∃s10',asS v9'=some s10'∧
 ∃r11',clearV Try.prog #[22] (.slice s10'.1 (s10'.2.1) (s10'.2.2)) r7'.2=some r11'∧
 Q (.slice s8'.1 (s8'.2.1) (s8'.2.2)) r11'.2))):
 Cn Try.prog 30 #[.slice Y0 l0 y0,.int .i64 x1,.int .i64 x2] M Q:=by
  refine Cn.of b30 d30 t30 ?_
  refine Rn.seq k30_0 (Rn.region k30_1 (fun call K=>r30_0) (Rch.leaf (Rn.seq k30_2 (Rn.region k30_3 (fun call K=>r30_1) (Rch.ex H fun v1' H=>Rch.ex H fun s2' H=>Rch.leaf (Rn.seq k30_4 (Rn.seq k30_5 (Rn.region k30_6 (fun call K=>r30_2) (Rch.leaf ?_)))))))))
  refine Rn.cnd (v:=x1 == x2) ⟨c30_7,rfl,by kernel_rfl⟩ (fun h=>?_) (fun h=>?_)
  · replace H:=H.1 (eq_of_beq h)
    refine Rn.seq k30_8 (Rn.region k30_9 (fun call K=>r30_3) (Rch.leaf ?_))
    exact Rn.ret k30_10 e30 H
  · replace H:=H.2 (ne_of_beq_false h)
    refine Rn.skip k30_12 (Rn.seq k30_13 (Rn.region k30_14 (fun call K=>r30_4) (Rch.leaf (Rn.seq k30_15 (Rn.regionD k30_16 (fun call K=>r30_5) (Rch.ex H fun v3' H=>Rch.ex H fun s4' H=>Rch.ex H fun v5' H=>Rch.ex H fun s6' H=>Rch.ex H fun r7' H=>Rch.ex H fun s8' H=>?_))))))
    refine Rch.leaf (Rn.seq k30_17 (Rn.region k30_18 (fun call K=>r30_6) (Rch.ex H fun v9' H=>Rch.ex H fun s10' H=>Rch.ex H fun r11' H=>Rch.leaf (Rn.seq k30_19 (Rn.region k30_20 (fun call K=>r30_7) (Rch.leaf ?_))))))
    exact Rn.ret k30_21 e30 H
noncomputable abbrev P11 (p:List Nat):Code:=subC (codeOf Try.f11) p
noncomputable abbrev O11 (p:List Nat):Array Oper:=opsOf (subC (codeOf Try.f11) p)
theorem b11:Try.prog.funcs[11]?=some Try.f11∧(Orc.tab Try.prog).lookup 11=none:=⟨by kernel_rfl,by kernel_rfl⟩
theorem d11:Try.f11.body=some (P11 []):=by kernel_rfl
theorem t11 {Y0:Option Addr} {l0 y0:Nat} {x1:Int} {Y2:Option Addr} {l2 y2:Nat}:#[.slice Y0 l0 y0,.int .i64 x1,.slice Y2 l2 y2] ++ Array.replicate (Try.f11.ntmps-(#[.slice Y0 l0 y0,.int .i64 x1,.slice Y2 l2 y2]:Array Value).size) undef=#[.slice Y0 l0 y0,.int .i64 x1,.slice Y2 l2 y2,undef,undef,undef,undef,undef,undef,undef,undef,undef,undef,undef,undef,undef,undef,undef,undef,undef,undef,undef,undef,undef,undef,undef,undef,undef,undef,undef,undef,undef,undef,undef,undef,undef,undef,undef,undef,undef,undef,undef,undef,undef,undef,undef,undef,undef,undef,undef,undef,undef,undef,undef,undef,undef,undef,undef,undef,undef,undef,undef,undef,undef,undef,undef,undef,undef,undef,undef,undef,undef,undef,undef,undef,undef,undef,undef,undef,undef,undef,undef,undef,undef,undef,undef,undef,undef,undef,undef,undef,undef,undef,undef,undef,undef,undef]:=by kernel_rfl
theorem k11_0:P11 []=.seq (P11 [0]) (P11 [1]):=by kernel_rfl
theorem k11_1:P11 [0]=.region 0 (O11 [0]) false:=by kernel_rfl
theorem r11_0 {M:Mem} {call:CallM} {K:Array Value→Mem→R} :
 opsK Try.prog (fun _=>call) (O11 [0]) (O11 [0]).toList 0 #[g0,g1,g2,g3,g4,g5,g6,g7,g8,g9,gA,gB,gC,gD,gE,gF,gG,gH,gI,gJ,gK,gL,gM,gN,gO,gP,gQ,gR,gS,gT,gU,gV,gW,gX,gY,gZ,hA,hB,hC,hD,hE,hF,hG,hH,hI,hJ,hK,hL,hM,hN,hO,hP,hQ,hR,hS,hT,hU,hV,hW,hX,hY,hZ,h0,h1,h2,h3,h4,h5,h6,h7,h8,h9,jA,jB,jC,jD,jE,jF,jG,jH,jI,jJ,jK,jL,jM,jN,jO,jP,jQ,jR,jS,jT,jU,jV,jW,jX,jY] M K=K #[g0,g1,g2,g3,g4,g5,.slice none 0 0,.int .i64 0,g8,g9,gA,gB,gC,gD,gE,gF,gG,gH,gI,gJ,gK,gL,gM,gN,gO,gP,gQ,gR,gS,gT,gU,gV,gW,gX,gY,gZ,hA,hB,hC,hD,hE,hF,hG,hH,hI,hJ,hK,hL,hM,hN,hO,hP,hQ,hR,hS,hT,hU,hV,hW,hX,hY,hZ,h0,h1,h2,h3,h4,h5,h6,h7,h8,h9,jA,jB,jC,jD,jE,jF,jG,jH,jI,jJ,jK,jL,jM,jN,jO,jP,jQ,jR,jS,jT,jU,jV,jW,jX,jY] M:=by kernel_rfl
theorem k11_2:P11 [1]=.scope (P11 [1,0]):=by kernel_rfl
theorem k11_3:P11 [1,0]=.seq (P11 [1,0,0]) (P11 [1,0,1]):=by kernel_rfl
theorem k11_4:P11 [1,0,0]=.region 1 (O11 [1,0,0]) false:=by kernel_rfl
theorem r11_1 {Y0:Option Addr} {l0 y0:Nat} {x1:Int} {M:Mem} {call:CallM} {K:Array Value→Mem→R} :
 opsK Try.prog (fun _=>call) (O11 [1,0,0]) (O11 [1,0,0]).toList 0 #[.slice Y0 l0 y0,.int .i64 x1,g2,g3,g4,g5,g6,g7,g8,g9,gA,gB,gC,gD,gE,gF,gG,gH,gI,gJ,gK,gL,gM,gN,gO,gP,gQ,gR,gS,gT,gU,gV,gW,gX,gY,gZ,hA,hB,hC,hD,hE,hF,hG,hH,hI,hJ,hK,hL,hM,hN,hO,hP,hQ,hR,hS,hT,hU,hV,hW,hX,hY,hZ,h0,h1,h2,h3,h4,h5,h6,h7,h8,h9,jA,jB,jC,jD,jE,jF,jG,jH,jI,jJ,jK,jL,jM,jN,jO,jP,jQ,jR,jS,jT,jU,jV,jW,jX,jY] M K=(call 28 #[.slice Y0 l0 y0,.int .i64 x1] M).bind fun r_1=>(asU 2 r_1.1).bind fun cs_2=>(asI .i64 (cs_2.getD 0 undef)).bind fun x_3=>(asI .i64 (cs_2.getD 1 undef)).bind fun x_4=>K #[.slice Y0 l0 y0,.int .i64 x1,g2,g3,g4,g5,g6,g7,.int .i64 x_3,.int .i64 x_4,gA,gB,gC,gD,gE,gF,gG,.tuple #[.int .i64 x_3,.int .i64 x_4],.slice Y0 l0 y0,.int .i64 x1,.tuple #[.int .i64 x_3,.int .i64 x_4],.int .i64 x_3,.int .i64 x_4,gN,gO,gP,gQ,gR,gS,gT,gU,gV,gW,gX,gY,gZ,hA,hB,hC,hD,hE,hF,hG,hH,hI,hJ,hK,hL,hM,hN,hO,hP,hQ,hR,hS,hT,hU,hV,hW,hX,hY,hZ,h0,h1,h2,h3,h4,h5,h6,h7,h8,h9,jA,jB,jC,jD,jE,jF,jG,jH,jI,jJ,jK,jL,jM,jN,jO,jP,jQ,jR,jS,jT,jU,jV,jW,jX,jY] r_1.2:=by kernel_rfl
theorem k11_5:P11 [1,0,1]=.seq (P11 [1,0,1,0]) (P11 [1,0,1,1]):=by kernel_rfl
theorem k11_6:P11 [1,0,1,0]=.seq (P11 [1,0,1,0,0]) (P11 [1,0,1,0,1]):=by kernel_rfl
theorem k11_7:P11 [1,0,1,0,0]=.region 2 (O11 [1,0,1,0,0]) false:=by kernel_rfl
theorem r11_2 {x9:Int} {M:Mem} {call:CallM} {K:Array Value→Mem→R} :
 opsK Try.prog (fun _=>call) (O11 [1,0,1,0,0]) (O11 [1,0,1,0,0]).toList 0 #[g0,g1,g2,g3,g4,g5,g6,g7,g8,.int .i64 x9,gA,gB,gC,gD,gE,gF,gG,gH,gI,gJ,gK,gL,gM,gN,gO,gP,gQ,gR,gS,gT,gU,gV,gW,gX,gY,gZ,hA,hB,hC,hD,hE,hF,hG,hH,hI,hJ,hK,hL,hM,hN,hO,hP,hQ,hR,hS,hT,hU,hV,hW,hX,hY,hZ,h0,h1,h2,h3,h4,h5,h6,h7,h8,h9,jA,jB,jC,jD,jE,jF,jG,jH,jI,jJ,jK,jL,jM,jN,jO,jP,jQ,jR,jS,jT,jU,jV,jW,jX,jY] M K=K #[g0,g1,g2,g3,g4,g5,g6,g7,g8,.int .i64 x9,gA,gB,gC,gD,gE,gF,gG,gH,gI,gJ,gK,gL,gM,.int .i64 x9,.bool (x9 != 0),gP,gQ,gR,gS,gT,gU,gV,gW,gX,gY,gZ,hA,hB,hC,hD,hE,hF,hG,hH,hI,hJ,hK,hL,hM,hN,hO,hP,hQ,hR,hS,hT,hU,hV,hW,hX,hY,hZ,h0,h1,h2,h3,h4,h5,h6,h7,h8,h9,jA,jB,jC,jD,jE,jF,jG,jH,jI,jJ,jK,jL,jM,jN,jO,jP,jQ,jR,jS,jT,jU,jV,jW,jX,jY] M:=by kernel_rfl
theorem c11_8:P11 [1,0,1,0,1]=.cond (.tmp 24) (P11 [1,0,1,0,1,0]) (P11 [1,0,1,0,1,1]):=by kernel_rfl
theorem k11_9:P11 [1,0,1,0,1,0]=.seq (P11 [1,0,1,0,1,0,0]) (P11 [1,0,1,0,1,0,1]):=by kernel_rfl
theorem k11_10:P11 [1,0,1,0,1,0,0]=.region 3 (O11 [1,0,1,0,1,0,0]) false:=by kernel_rfl
theorem r11_3 {x9:Int} {M:Mem} {call:CallM} {K:Array Value→Mem→R} :
 opsK Try.prog (fun _=>call) (O11 [1,0,1,0,1,0,0]) (O11 [1,0,1,0,1,0,0]).toList 0 #[g0,g1,g2,g3,g4,g5,g6,g7,g8,.int .i64 x9,gA,gB,gC,gD,gE,gF,gG,gH,gI,gJ,gK,gL,gM,gN,gO,gP,gQ,gR,gS,gT,gU,gV,gW,gX,gY,gZ,hA,hB,hC,hD,hE,hF,hG,hH,hI,hJ,hK,hL,hM,hN,hO,hP,hQ,hR,hS,hT,hU,hV,hW,hX,hY,hZ,h0,h1,h2,h3,h4,h5,h6,h7,h8,h9,jA,jB,jC,jD,jE,jF,jG,jH,jI,jJ,jK,jL,jM,jN,jO,jP,jQ,jR,jS,jT,jU,jV,jW,jX,jY] M K=K #[g0,g1,g2,g3,g4,g5,.slice none 0 0,.int .i64 x9,g8,.int .i64 x9,gA,gB,gC,gD,gE,gF,gG,gH,gI,gJ,gK,gL,gM,gN,gO,.int .i64 x9,gQ,gR,gS,gT,gU,gV,gW,gX,gY,gZ,hA,hB,hC,hD,hE,hF,hG,hH,hI,hJ,hK,hL,hM,hN,hO,hP,hQ,hR,hS,hT,hU,hV,hW,hX,hY,hZ,h0,h1,h2,h3,h4,h5,h6,h7,h8,h9,jA,jB,jC,jD,jE,jF,jG,jH,jI,jJ,jK,jL,jM,jN,jO,jP,jQ,jR,jS,jT,jU,jV,jW,jX,jY] M:=by kernel_rfl
theorem k11_11:P11 [1,0,1,0,1,0,1]=.ret:=by kernel_rfl
theorem e11 {M:Mem}:finish Try.prog Try.f11 #[g0,g1,g2,g3,g4,g5,g6,g7,g8,g9,gA,gB,gC,gD,gE,gF,gG,gH,gI,gJ,gK,gL,gM,gN,gO,gP,gQ,gR,gS,gT,gU,gV,gW,gX,gY,gZ,hA,hB,hC,hD,hE,hF,hG,hH,hI,hJ,hK,hL,hM,hN,hO,hP,hQ,hR,hS,hT,hU,hV,hW,hX,hY,hZ,h0,h1,h2,h3,h4,h5,h6,h7,h8,h9,jA,jB,jC,jD,jE,jF,jG,jH,jI,jJ,jK,jL,jM,jN,jO,jP,jQ,jR,jS,jT,jU,jV,jW,jX,jY] M=some (.tuple #[g6,g7],M):=by kernel_rfl
theorem k11_13:P11 [1,0,1,0,1,1]=.skip:=by kernel_rfl
theorem k11_14:P11 [1,0,1,1]=.seq (P11 [1,0,1,1,0]) (P11 [1,0,1,1,1]):=by kernel_rfl
theorem k11_15:P11 [1,0,1,1,0]=.region 4 (O11 [1,0,1,1,0]) false:=by kernel_rfl
theorem r11_4 {Y0:Option Addr} {l0 y0:Nat} {M:Mem} {call:CallM} {K:Array Value→Mem→R} :
 opsK Try.prog (fun _=>call) (O11 [1,0,1,1,0]) (O11 [1,0,1,1,0]).toList 0 #[.slice Y0 l0 y0,g1,g2,g3,g4,g5,g6,g7,g8,g9,gA,gB,gC,gD,gE,gF,gG,gH,gI,gJ,gK,gL,gM,gN,gO,gP,gQ,gR,gS,gT,gU,gV,gW,gX,gY,gZ,hA,hB,hC,hD,hE,hF,hG,hH,hI,hJ,hK,hL,hM,hN,hO,hP,hQ,hR,hS,hT,hU,hV,hW,hX,hY,hZ,h0,h1,h2,h3,h4,h5,h6,h7,h8,h9,jA,jB,jC,jD,jE,jF,jG,jH,jI,jJ,jK,jL,jM,jN,jO,jP,jQ,jR,jS,jT,jU,jV,jW,jX,jY] M K=(call 29 #[.slice Y0 l0 y0] M).bind fun r_1=>(asS r_1.1).bind fun s_2=>K #[.slice Y0 l0 y0,g1,g2,g3,g4,g5,g6,g7,g8,g9,.slice s_2.1 (s_2.2.1) (s_2.2.2),gB,gC,gD,gE,gF,gG,gH,gI,gJ,gK,gL,gM,gN,gO,gP,.slice Y0 l0 y0,.slice s_2.1 (s_2.2.1) (s_2.2.2),gS,gT,gU,gV,gW,gX,gY,gZ,hA,hB,hC,hD,hE,hF,hG,hH,hI,hJ,hK,hL,hM,hN,hO,hP,hQ,hR,hS,hT,hU,hV,hW,hX,hY,hZ,h0,h1,h2,h3,h4,h5,h6,h7,h8,h9,jA,jB,jC,jD,jE,jF,jG,jH,jI,jJ,jK,jL,jM,jN,jO,jP,jQ,jR,jS,jT,jU,jV,jW,jX,jY] r_1.2:=by kernel_rfl
theorem k11_16:P11 [1,0,1,1,1]=.seq (P11 [1,0,1,1,1,0]) (P11 [1,0,1,1,1,1]):=by kernel_rfl
theorem k11_17:P11 [1,0,1,1,1,0]=.region 5 (O11 [1,0,1,1,1,0]) false:=by kernel_rfl
theorem r11_5 {x8:Int} {M:Mem} {call:CallM} {K:Array Value→Mem→R} :
 opsK Try.prog (fun _=>call) (O11 [1,0,1,1,1,0]) (O11 [1,0,1,1,1,0]).toList 0 #[g0,g1,g2,g3,g4,g5,g6,g7,.int .i64 x8,g9,gA,gB,gC,gD,gE,gF,gG,gH,gI,gJ,gK,gL,gM,gN,gO,gP,gQ,gR,gS,gT,gU,gV,gW,gX,gY,gZ,hA,hB,hC,hD,hE,hF,hG,hH,hI,hJ,hK,hL,hM,hN,hO,hP,hQ,hR,hS,hT,hU,hV,hW,hX,hY,hZ,h0,h1,h2,h3,h4,h5,h6,h7,h8,h9,jA,jB,jC,jD,jE,jF,jG,jH,jI,jJ,jK,jL,jM,jN,jO,jP,jQ,jR,jS,jT,jU,jV,jW,jX,jY] M K=(makeP Try.prog 22 (.int .i64 0) (.int .i64 x8) M).bind fun r_1=>(asS r_1.1).bind fun s_2=>K #[g0,g1,g2,g3,g4,g5,g6,g7,.int .i64 x8,g9,gA,.slice s_2.1 (s_2.2.1) (s_2.2.2),gC,gD,gE,gF,gG,gH,gI,gJ,gK,gL,gM,gN,gO,gP,gQ,gR,.int .i64 x8,.slice s_2.1 (s_2.2.1) (s_2.2.2),gU,gV,gW,gX,gY,gZ,hA,hB,hC,hD,hE,hF,hG,hH,hI,hJ,hK,hL,hM,hN,hO,hP,hQ,hR,hS,hT,hU,hV,hW,hX,hY,hZ,h0,h1,h2,h3,h4,h5,h6,h7,h8,h9,jA,jB,jC,jD,jE,jF,jG,jH,jI,jJ,jK,jL,jM,jN,jO,jP,jQ,jR,jS,jT,jU,jV,jW,jX,jY] r_1.2:=by kernel_rfl
theorem k11_18:P11 [1,0,1,1,1,1]=.seq (P11 [1,0,1,1,1,1,0]) (P11 [1,0,1,1,1,1,1]):=by kernel_rfl
theorem k11_19:P11 [1,0,1,1,1,1,0]=.region 6 (O11 [1,0,1,1,1,1,0]) false:=by kernel_rfl
theorem r11_6 {M:Mem} {call:CallM} {K:Array Value→Mem→R} :
 opsK Try.prog (fun _=>call) (O11 [1,0,1,1,1,1,0]) (O11 [1,0,1,1,1,1,0]).toList 0 #[g0,g1,g2,g3,g4,g5,g6,g7,g8,g9,gA,gB,gC,gD,gE,gF,gG,gH,gI,gJ,gK,gL,gM,gN,gO,gP,gQ,gR,gS,gT,gU,gV,gW,gX,gY,gZ,hA,hB,hC,hD,hE,hF,hG,hH,hI,hJ,hK,hL,hM,hN,hO,hP,hQ,hR,hS,hT,hU,hV,hW,hX,hY,hZ,h0,h1,h2,h3,h4,h5,h6,h7,h8,h9,jA,jB,jC,jD,jE,jF,jG,jH,jI,jJ,jK,jL,jM,jN,jO,jP,jQ,jR,jS,jT,jU,jV,jW,jX,jY] M K=K #[g0,g1,g2,g3,g4,g5,g6,g7,g8,g9,gA,gB,.slice none 0 0,gD,gE,gF,gG,gH,gI,gJ,gK,gL,gM,gN,gO,gP,gQ,gR,gS,gT,gU,gV,gW,gX,gY,gZ,hA,hB,hC,hD,hE,hF,hG,hH,hI,hJ,hK,hL,hM,hN,hO,hP,hQ,hR,hS,hT,hU,hV,hW,hX,hY,hZ,h0,h1,h2,h3,h4,h5,h6,h7,h8,h9,jA,jB,jC,jD,jE,jF,jG,jH,jI,jJ,jK,jL,jM,jN,jO,jP,jQ,jR,jS,jT,jU,jV,jW,jX,jY] M:=by kernel_rfl
theorem k11_20:P11 [1,0,1,1,1,1,1]=.seq (P11 [1,0,1,1,1,1,1,0]) (P11 [1,0,1,1,1,1,1,1]):=by kernel_rfl
theorem k11_21:P11 [1,0,1,1,1,1,1,0]=.region 7 (O11 [1,0,1,1,1,1,1,0]) false:=by kernel_rfl
theorem r11_7 {M:Mem} {call:CallM} {K:Array Value→Mem→R} :
 opsK Try.prog (fun _=>call) (O11 [1,0,1,1,1,1,1,0]) (O11 [1,0,1,1,1,1,1,0]).toList 0 #[g0,g1,g2,g3,g4,g5,g6,g7,g8,g9,gA,gB,gC,gD,gE,gF,gG,gH,gI,gJ,gK,gL,gM,gN,gO,gP,gQ,gR,gS,gT,gU,gV,gW,gX,gY,gZ,hA,hB,hC,hD,hE,hF,hG,hH,hI,hJ,hK,hL,hM,hN,hO,hP,hQ,hR,hS,hT,hU,hV,hW,hX,hY,hZ,h0,h1,h2,h3,h4,h5,h6,h7,h8,h9,jA,jB,jC,jD,jE,jF,jG,jH,jI,jJ,jK,jL,jM,jN,jO,jP,jQ,jR,jS,jT,jU,jV,jW,jX,jY] M K=K #[g0,g1,g2,g3,g4,g5,g6,g7,g8,g9,gA,gB,gC,.int .i64 0,gE,gF,gG,gH,gI,gJ,gK,gL,gM,gN,gO,gP,gQ,gR,gS,gT,gU,gV,gW,gX,gY,gZ,hA,hB,hC,hD,hE,hF,hG,hH,hI,hJ,hK,hL,hM,hN,hO,hP,hQ,hR,hS,hT,hU,hV,hW,hX,hY,hZ,h0,h1,h2,h3,h4,h5,h6,h7,h8,h9,jA,jB,jC,jD,jE,jF,jG,jH,jI,jJ,jK,jL,jM,jN,jO,jP,jQ,jR,jS,jT,jU,jV,jW,jX,jY] M:=by kernel_rfl
theorem k11_22:P11 [1,0,1,1,1,1,1,1]=.seq (P11 [1,0,1,1,1,1,1,1,0]) (P11 [1,0,1,1,1,1,1,1,1]):=by kernel_rfl
theorem k11_23:P11 [1,0,1,1,1,1,1,1,0]=.label 0:=by kernel_rfl
theorem k11_24:P11 [1,0,1,1,1,1,1,1,1]=.seq (P11 [1,0,1,1,1,1,1,1,1,0]) (P11 [1,0,1,1,1,1,1,1,1,1]):=by kernel_rfl
theorem k11_25:P11 [1,0,1,1,1,1,1,1,1,0]=.block 0 (P11 [1,0,1,1,1,1,1,1,1,0,0]):=by kernel_rfl
theorem k11_26:P11 [1,0,1,1,1,1,1,1,1,0,0]=.loop (P11 [1,0,1,1,1,1,1,1,1,0,0,0]):=by kernel_rfl
theorem k11_27:P11 [1,0,1,1,1,1,1,1,1,0,0,0]=.block 1 (P11 [1,0,1,1,1,1,1,1,1,0,0,0,0]):=by kernel_rfl
theorem k11_28:P11 [1,0,1,1,1,1,1,1,1,0,0,0,0]=.seq (P11 [1,0,1,1,1,1,1,1,1,0,0,0,0,0]) (P11 [1,0,1,1,1,1,1,1,1,0,0,0,0,1]):=by kernel_rfl
theorem k11_29:P11 [1,0,1,1,1,1,1,1,1,0,0,0,0,0]=.block 2 (P11 [1,0,1,1,1,1,1,1,1,0,0,0,0,0,0]):=by kernel_rfl
theorem k11_30:P11 [1,0,1,1,1,1,1,1,1,0,0,0,0,0,0]=.loop (P11 [1,0,1,1,1,1,1,1,1,0,0,0,0,0,0,0]):=by kernel_rfl
theorem k11_31:P11 [1,0,1,1,1,1,1,1,1,0,0,0,0,0,0,0]=.seq (P11 [1,0,1,1,1,1,1,1,1,0,0,0,0,0,0,0,0]) (P11 [1,0,1,1,1,1,1,1,1,0,0,0,0,0,0,0,1]):=by kernel_rfl
theorem k11_32:P11 [1,0,1,1,1,1,1,1,1,0,0,0,0,0,0,0,0]=.seq (P11 [1,0,1,1,1,1,1,1,1,0,0,0,0,0,0,0,0,0]) (P11 [1,0,1,1,1,1,1,1,1,0,0,0,0,0,0,0,0,1]):=by kernel_rfl
theorem k11_33:P11 [1,0,1,1,1,1,1,1,1,0,0,0,0,0,0,0,0,0]=.region 8 (O11 [1,0,1,1,1,1,1,1,1,0,0,0,0,0,0,0,0,0]) false:=by kernel_rfl
theorem r11_8 {x1:Int} {Y10:Option Addr} {l10 y10:Nat} {Y12:Option Addr} {l12 y12:Nat} {x13:Int} {M:Mem} {call:CallM} {K:Array Value→Mem→R} :
 opsK Try.prog (fun _=>call) (O11 [1,0,1,1,1,1,1,1,1,0,0,0,0,0,0,0,0,0]) (O11 [1,0,1,1,1,1,1,1,1,0,0,0,0,0,0,0,0,0]).toList 0 #[g0,.int .i64 x1,g2,g3,g4,g5,g6,g7,g8,g9,.slice Y10 l10 y10,gB,.slice Y12 l12 y12,.int .i64 x13,gE,gF,gG,gH,gI,gJ,gK,gL,gM,gN,gO,gP,gQ,gR,gS,gT,gU,gV,gW,gX,gY,gZ,hA,hB,hC,hD,hE,hF,hG,hH,hI,hJ,hK,hL,hM,hN,hO,hP,hQ,hR,hS,hT,hU,hV,hW,hX,hY,hZ,h0,h1,h2,h3,h4,h5,h6,h7,h8,h9,jA,jB,jC,jD,jE,jF,jG,jH,jI,jJ,jK,jL,jM,jN,jO,jP,jQ,jR,jS,jT,jU,jV,jW,jX,jY] M K=withK (fun w34 w35 w36 w37 w38 w39 M=>K #[g0,.int .i64 x1,g2,g3,g4,g5,g6,g7,g8,g9,.slice Y10 l10 y10,gB,.slice Y12 l12 y12,.int .i64 x13,gE,gF,gG,gH,gI,gJ,gK,gL,gM,gN,gO,gP,gQ,gR,gS,gT,.slice Y12 l12 y12,.int .i64 ((l12:Int)),.int .i64 x1,.bool (decide (((l12:Int))<x1)),w34,w35,w36,w37,w38,w39,hE,hF,hG,hH,hI,hJ,hK,hL,hM,hN,hO,hP,hQ,hR,hS,hT,hU,hV,hW,hX,hY,hZ,h0,h1,h2,h3,h4,h5,h6,h7,h8,h9,jA,jB,jC,jD,jE,jF,jG,jH,jI,jJ,jK,jL,jM,jN,jO,jP,jQ,jR,jS,jT,jU,jV,jW,jX,jY] M) fun k=>cond (decide (((l12:Int))<x1)) (k (.bool true) (.int .i64 x13) (.slice Y10 l10 y10) (.int .i64 ((l10:Int))) (.bool (decide (x13<((l10:Int))))) (.bool (decide (x13<((l10:Int))))) M) (k (.bool false) undef undef undef undef (.bool false) M):=by kernel_rfl
theorem c11_34:P11 [1,0,1,1,1,1,1,1,1,0,0,0,0,0,0,0,0,1]=.cond (.tmp 39) (P11 [1,0,1,1,1,1,1,1,1,0,0,0,0,0,0,0,0,1,0]) (P11 [1,0,1,1,1,1,1,1,1,0,0,0,0,0,0,0,0,1,1]):=by kernel_rfl
theorem k11_35:P11 [1,0,1,1,1,1,1,1,1,0,0,0,0,0,0,0,0,1,0]=.skip:=by kernel_rfl
theorem k11_36:P11 [1,0,1,1,1,1,1,1,1,0,0,0,0,0,0,0,1]=.block 3 (P11 [1,0,1,1,1,1,1,1,1,0,0,0,0,0,0,0,1,0]):=by kernel_rfl
theorem k11_37:P11 [1,0,1,1,1,1,1,1,1,0,0,0,0,0,0,0,1,0]=.seq (P11 [1,0,1,1,1,1,1,1,1,0,0,0,0,0,0,0,1,0,0]) (P11 [1,0,1,1,1,1,1,1,1,0,0,0,0,0,0,0,1,0,1]):=by kernel_rfl
theorem k11_38:P11 [1,0,1,1,1,1,1,1,1,0,0,0,0,0,0,0,1,0,0]=.seq (P11 [1,0,1,1,1,1,1,1,1,0,0,0,0,0,0,0,1,0,0,0]) (P11 [1,0,1,1,1,1,1,1,1,0,0,0,0,0,0,0,1,0,0,1]):=by kernel_rfl
theorem k11_39:P11 [1,0,1,1,1,1,1,1,1,0,0,0,0,0,0,0,1,0,0,0]=.region 9 (O11 [1,0,1,1,1,1,1,1,1,0,0,0,0,0,0,0,1,0,0,0]) false:=by kernel_rfl
theorem r11_9 {Y10:Option Addr} {l10 y10:Nat} {x13:Int} {M:Mem} {call:CallM} {K:Array Value→Mem→R} :
 opsK Try.prog (fun _=>call) (O11 [1,0,1,1,1,1,1,1,1,0,0,0,0,0,0,0,1,0,0,0]) (O11 [1,0,1,1,1,1,1,1,1,0,0,0,0,0,0,0,1,0,0,0]).toList 0 #[g0,g1,g2,g3,g4,g5,g6,g7,g8,g9,.slice Y10 l10 y10,gB,gC,.int .i64 x13,gE,gF,gG,gH,gI,gJ,gK,gL,gM,gN,gO,gP,gQ,gR,gS,gT,gU,gV,gW,gX,gY,gZ,hA,hB,hC,hD,hE,hF,hG,hH,hI,hJ,hK,hL,hM,hN,hO,hP,hQ,hR,hS,hT,hU,hV,hW,hX,hY,hZ,h0,h1,h2,h3,h4,h5,h6,h7,h8,h9,jA,jB,jC,jD,jE,jF,jG,jH,jI,jJ,jK,jL,jM,jN,jO,jP,jQ,jR,jS,jT,jU,jV,jW,jX,jY] M K=(idxA Y10 l10 1 x13).bind fun a_1=>(M.intAt .i64 a_1.block a_1.off).bind fun x_2=>K #[g0,g1,g2,g3,g4,g5,g6,g7,g8,g9,.slice Y10 l10 y10,gB,gC,.int .i64 x13,gE,gF,gG,gH,gI,gJ,gK,gL,gM,gN,gO,gP,gQ,gR,gS,gT,gU,gV,gW,gX,gY,gZ,hA,hB,hC,hD,.slice Y10 l10 y10,.int .i64 x13,.pointer (some a_1),.int .i64 x_2,.bool (decide (x_2>0)),hJ,hK,hL,hM,hN,hO,hP,hQ,hR,hS,hT,hU,hV,hW,hX,hY,hZ,h0,h1,h2,h3,h4,h5,h6,h7,h8,h9,jA,jB,jC,jD,jE,jF,jG,jH,jI,jJ,jK,jL,jM,jN,jO,jP,jQ,jR,jS,jT,jU,jV,jW,jX,jY] M:=by kernel_rfl
theorem c11_40:P11 [1,0,1,1,1,1,1,1,1,0,0,0,0,0,0,0,1,0,0,1]=.cond (.tmp 44) (P11 [1,0,1,1,1,1,1,1,1,0,0,0,0,0,0,0,1,0,0,1,0]) (P11 [1,0,1,1,1,1,1,1,1,0,0,0,0,0,0,0,1,0,0,1,1]):=by kernel_rfl
theorem k11_41:P11 [1,0,1,1,1,1,1,1,1,0,0,0,0,0,0,0,1,0,0,1,0]=.region 10 (O11 [1,0,1,1,1,1,1,1,1,0,0,0,0,0,0,0,1,0,0,1,0]) false:=by kernel_rfl
theorem r11_10 {Y12:Option Addr} {l12 y12:Nat} {x13:Int} {M:Mem} {call:CallM} {K:Array Value→Mem→R} :
 opsK Try.prog (fun _=>call) (O11 [1,0,1,1,1,1,1,1,1,0,0,0,0,0,0,0,1,0,0,1,0]) (O11 [1,0,1,1,1,1,1,1,1,0,0,0,0,0,0,0,1,0,0,1,0]).toList 0 #[g0,g1,g2,g3,g4,g5,g6,g7,g8,g9,gA,gB,.slice Y12 l12 y12,.int .i64 x13,gE,gF,gG,gH,gI,gJ,gK,gL,gM,gN,gO,gP,gQ,gR,gS,gT,gU,gV,gW,gX,gY,gZ,hA,hB,hC,hD,hE,hF,hG,hH,hI,hJ,hK,hL,hM,hN,hO,hP,hQ,hR,hS,hT,hU,hV,hW,hX,hY,hZ,h0,h1,h2,h3,h4,h5,h6,h7,h8,h9,jA,jB,jC,jD,jE,jF,jG,jH,jI,jJ,jK,jL,jM,jN,jO,jP,jQ,jR,jS,jT,jU,jV,jW,jX,jY] M K=(appendP Try.prog #[22,22] (.slice Y12 l12 y12) (.slice (some ⟨2*M.nb.size,0,none⟩) 1 1) (M.new (.cells #[.int .i64 x13] 3))).bind fun r_1=>(asS r_1.1).bind fun s_2=>K #[g0,g1,g2,g3,g4,g5,g6,g7,g8,g9,gA,gB,.slice s_2.1 (s_2.2.1) (s_2.2.2),.int .i64 x13,gE,gF,gG,gH,gI,gJ,gK,gL,gM,gN,gO,gP,gQ,gR,gS,gT,gU,gV,gW,gX,gY,gZ,hA,hB,hC,hD,hE,hF,hG,hH,hI,.slice Y12 l12 y12,.int .i64 x13,.slice (some ⟨2*M.nb.size,0,none⟩) 1 1,.slice s_2.1 (s_2.2.1) (s_2.2.2),hN,hO,hP,hQ,hR,hS,hT,hU,hV,hW,hX,hY,hZ,h0,h1,h2,h3,h4,h5,h6,h7,h8,h9,jA,jB,jC,jD,jE,jF,jG,jH,jI,jJ,jK,jL,jM,jN,jO,jP,jQ,jR,jS,jT,jU,jV,jW,jX,jY] r_1.2:=by kernel_rfl
theorem k11_42:P11 [1,0,1,1,1,1,1,1,1,0,0,0,0,0,0,0,1,0,1]=.region 11 (O11 [1,0,1,1,1,1,1,1,1,0,0,0,0,0,0,0,1,0,1]) false:=by kernel_rfl
theorem r11_11 {x13:Int} {M:Mem} {call:CallM} {K:Array Value→Mem→R} :
 opsK Try.prog (fun _=>call) (O11 [1,0,1,1,1,1,1,1,1,0,0,0,0,0,0,0,1,0,1]) (O11 [1,0,1,1,1,1,1,1,1,0,0,0,0,0,0,0,1,0,1]).toList 0 #[g0,g1,g2,g3,g4,g5,g6,g7,g8,g9,gA,gB,gC,.int .i64 x13,gE,gF,gG,gH,gI,gJ,gK,gL,gM,gN,gO,gP,gQ,gR,gS,gT,gU,gV,gW,gX,gY,gZ,hA,hB,hC,hD,hE,hF,hG,hH,hI,hJ,hK,hL,hM,hN,hO,hP,hQ,hR,hS,hT,hU,hV,hW,hX,hY,hZ,h0,h1,h2,h3,h4,h5,h6,h7,h8,h9,jA,jB,jC,jD,jE,jF,jG,jH,jI,jJ,jK,jL,jM,jN,jO,jP,jQ,jR,jS,jT,jU,jV,jW,jX,jY] M K=K #[g0,g1,g2,g3,g4,g5,g6,g7,g8,g9,gA,gB,gC,.int .i64 (IntKind.i64.wrap (x13+1)),gE,gF,gG,gH,gI,gJ,gK,gL,gM,gN,gO,gP,gQ,gR,gS,gT,gU,gV,gW,gX,gY,gZ,hA,hB,hC,hD,hE,hF,hG,hH,hI,hJ,hK,hL,hM,.int .i64 x13,.int .i64 (IntKind.i64.wrap (x13+1)),hP,hQ,hR,hS,hT,hU,hV,hW,hX,hY,hZ,h0,h1,h2,h3,h4,h5,h6,h7,h8,h9,jA,jB,jC,jD,jE,jF,jG,jH,jI,jJ,jK,jL,jM,jN,jO,jP,jQ,jR,jS,jT,jU,jV,jW,jX,jY] M:=by kernel_rfl
theorem k11_43:P11 [1,0,1,1,1,1,1,1,1,0,0,0,0,0,0,0,1,0,0,1,1]=.skip:=by kernel_rfl
theorem k11_44:P11 [1,0,1,1,1,1,1,1,1,0,0,0,0,0,0,0,0,1,1]=.exit 2:=by kernel_rfl
theorem k11_45:P11 [1,0,1,1,1,1,1,1,1,0,0,0,0,1]=.seq (P11 [1,0,1,1,1,1,1,1,1,0,0,0,0,1,0]) (P11 [1,0,1,1,1,1,1,1,1,0,0,0,0,1,1]):=by kernel_rfl
theorem k11_46:P11 [1,0,1,1,1,1,1,1,1,0,0,0,0,1,0]=.seq (P11 [1,0,1,1,1,1,1,1,1,0,0,0,0,1,0,0]) (P11 [1,0,1,1,1,1,1,1,1,0,0,0,0,1,0,1]):=by kernel_rfl
theorem k11_47:P11 [1,0,1,1,1,1,1,1,1,0,0,0,0,1,0,0]=.region 12 (O11 [1,0,1,1,1,1,1,1,1,0,0,0,0,1,0,0]) false:=by kernel_rfl
theorem r11_12 {Y12:Option Addr} {l12 y12:Nat} {M:Mem} {call:CallM} {K:Array Value→Mem→R} :
 opsK Try.prog (fun _=>call) (O11 [1,0,1,1,1,1,1,1,1,0,0,0,0,1,0,0]) (O11 [1,0,1,1,1,1,1,1,1,0,0,0,0,1,0,0]).toList 0 #[g0,g1,g2,g3,g4,g5,g6,g7,g8,g9,gA,gB,.slice Y12 l12 y12,gD,gE,gF,gG,gH,gI,gJ,gK,gL,gM,gN,gO,gP,gQ,gR,gS,gT,gU,gV,gW,gX,gY,gZ,hA,hB,hC,hD,hE,hF,hG,hH,hI,hJ,hK,hL,hM,hN,hO,hP,hQ,hR,hS,hT,hU,hV,hW,hX,hY,hZ,h0,h1,h2,h3,h4,h5,h6,h7,h8,h9,jA,jB,jC,jD,jE,jF,jG,jH,jI,jJ,jK,jL,jM,jN,jO,jP,jQ,jR,jS,jT,jU,jV,jW,jX,jY] M K=K #[g0,g1,g2,g3,g4,g5,g6,g7,g8,g9,gA,gB,.slice Y12 l12 y12,gD,gE,gF,gG,gH,gI,gJ,gK,gL,gM,gN,gO,gP,gQ,gR,gS,gT,gU,gV,gW,gX,gY,gZ,hA,hB,hC,hD,hE,hF,hG,hH,hI,hJ,hK,hL,hM,hN,hO,.slice Y12 l12 y12,.int .i64 ((l12:Int)),.bool (((l12:Int)) == 0),hS,hT,hU,hV,hW,hX,hY,hZ,h0,h1,h2,h3,h4,h5,h6,h7,h8,h9,jA,jB,jC,jD,jE,jF,jG,jH,jI,jJ,jK,jL,jM,jN,jO,jP,jQ,jR,jS,jT,jU,jV,jW,jX,jY] M:=by kernel_rfl
theorem c11_48:P11 [1,0,1,1,1,1,1,1,1,0,0,0,0,1,0,1]=.cond (.tmp 53) (P11 [1,0,1,1,1,1,1,1,1,0,0,0,0,1,0,1,0]) (P11 [1,0,1,1,1,1,1,1,1,0,0,0,0,1,0,1,1]):=by kernel_rfl
theorem k11_49:P11 [1,0,1,1,1,1,1,1,1,0,0,0,0,1,0,1,0]=.exit 0:=by kernel_rfl
theorem k11_50:P11 [1,0,1,1,1,1,1,1,1,1]=.seq (P11 [1,0,1,1,1,1,1,1,1,1,0]) (P11 [1,0,1,1,1,1,1,1,1,1,1]):=by kernel_rfl
theorem k11_51:P11 [1,0,1,1,1,1,1,1,1,1,0]=.region 22 (O11 [1,0,1,1,1,1,1,1,1,1,0]) false:=by kernel_rfl
theorem r11_22 {Y11:Option Addr} {l11 y11:Nat} {M:Mem} {call:CallM} {K:Array Value→Mem→R} :
 opsK Try.prog (fun _=>call) (O11 [1,0,1,1,1,1,1,1,1,1,0]) (O11 [1,0,1,1,1,1,1,1,1,1,0]).toList 0 #[g0,g1,g2,g3,g4,g5,g6,g7,g8,g9,gA,.slice Y11 l11 y11,gC,gD,gE,gF,gG,gH,gI,gJ,gK,gL,gM,gN,gO,gP,gQ,gR,gS,gT,gU,gV,gW,gX,gY,gZ,hA,hB,hC,hD,hE,hF,hG,hH,hI,hJ,hK,hL,hM,hN,hO,hP,hQ,hR,hS,hT,hU,hV,hW,hX,hY,hZ,h0,h1,h2,h3,h4,h5,h6,h7,h8,h9,jA,jB,jC,jD,jE,jF,jG,jH,jI,jJ,jK,jL,jM,jN,jO,jP,jQ,jR,jS,jT,jU,jV,jW,jX,jY] M K=K #[g0,g1,g2,g3,g4,g5,.slice Y11 l11 y11,.int .i64 0,g8,g9,gA,.slice Y11 l11 y11,gC,gD,gE,gF,gG,gH,gI,gJ,gK,gL,gM,gN,gO,gP,gQ,gR,gS,gT,gU,gV,gW,gX,gY,gZ,hA,hB,hC,hD,hE,hF,hG,hH,hI,hJ,hK,hL,hM,hN,hO,hP,hQ,hR,hS,hT,hU,hV,hW,hX,hY,hZ,h0,h1,h2,h3,h4,h5,h6,h7,h8,h9,jA,jB,jC,jD,jE,jF,jG,jH,jI,jJ,jK,jL,jM,jN,jO,jP,jQ,jR,jS,jT,jU,jV,jW,jX,.slice Y11 l11 y11] M:=by kernel_rfl
theorem k11_52:P11 [1,0,1,1,1,1,1,1,1,1,1]=.ret:=by kernel_rfl
theorem k11_53:P11 [1,0,1,1,1,1,1,1,1,0,0,0,0,1,0,1,1]=.skip:=by kernel_rfl
theorem k11_54:P11 [1,0,1,1,1,1,1,1,1,0,0,0,0,1,1]=.seq (P11 [1,0,1,1,1,1,1,1,1,0,0,0,0,1,1,0]) (P11 [1,0,1,1,1,1,1,1,1,0,0,0,0,1,1,1]):=by kernel_rfl
theorem k11_55:P11 [1,0,1,1,1,1,1,1,1,0,0,0,0,1,1,0]=.region 13 (O11 [1,0,1,1,1,1,1,1,1,0,0,0,0,1,1,0]) false:=by kernel_rfl
theorem r11_13 {M:Mem} {call:CallM} {K:Array Value→Mem→R} :
 opsK Try.prog (fun _=>call) (O11 [1,0,1,1,1,1,1,1,1,0,0,0,0,1,1,0]) (O11 [1,0,1,1,1,1,1,1,1,0,0,0,0,1,1,0]).toList 0 #[g0,g1,g2,g3,g4,g5,g6,g7,g8,g9,gA,gB,gC,gD,gE,gF,gG,gH,gI,gJ,gK,gL,gM,gN,gO,gP,gQ,gR,gS,gT,gU,gV,gW,gX,gY,gZ,hA,hB,hC,hD,hE,hF,hG,hH,hI,hJ,hK,hL,hM,hN,hO,hP,hQ,hR,hS,hT,hU,hV,hW,hX,hY,hZ,h0,h1,h2,h3,h4,h5,h6,h7,h8,h9,jA,jB,jC,jD,jE,jF,jG,jH,jI,jJ,jK,jL,jM,jN,jO,jP,jQ,jR,jS,jT,jU,jV,jW,jX,jY] M K=K #[g0,g1,g2,g3,g4,g5,g6,g7,g8,g9,gA,gB,gC,gD,.int .i64 0,gF,gG,gH,gI,gJ,gK,gL,gM,gN,gO,gP,gQ,gR,gS,gT,gU,gV,gW,gX,gY,gZ,hA,hB,hC,hD,hE,hF,hG,hH,hI,hJ,hK,hL,hM,hN,hO,hP,hQ,hR,hS,hT,hU,hV,hW,hX,hY,hZ,h0,h1,h2,h3,h4,h5,h6,h7,h8,h9,jA,jB,jC,jD,jE,jF,jG,jH,jI,jJ,jK,jL,jM,jN,jO,jP,jQ,jR,jS,jT,jU,jV,jW,jX,jY] M:=by kernel_rfl
theorem k11_56:P11 [1,0,1,1,1,1,1,1,1,0,0,0,0,1,1,1]=.seq (P11 [1,0,1,1,1,1,1,1,1,0,0,0,0,1,1,1,0]) (P11 [1,0,1,1,1,1,1,1,1,0,0,0,0,1,1,1,1]):=by kernel_rfl
theorem k11_57:P11 [1,0,1,1,1,1,1,1,1,0,0,0,0,1,1,1,0]=.seq (P11 [1,0,1,1,1,1,1,1,1,0,0,0,0,1,1,1,0,0]) (P11 [1,0,1,1,1,1,1,1,1,0,0,0,0,1,1,1,0,1]):=by kernel_rfl
theorem k11_58:P11 [1,0,1,1,1,1,1,1,1,0,0,0,0,1,1,1,0,0]=.region 14 (O11 [1,0,1,1,1,1,1,1,1,0,0,0,0,1,1,1,0,0]) false:=by kernel_rfl
theorem r11_14 {Y2:Option Addr} {l2 y2:Nat} {Y11:Option Addr} {l11 y11:Nat} {M:Mem} {call:CallM} {K:Array Value→Mem→R} :
 opsK Try.prog (fun _=>call) (O11 [1,0,1,1,1,1,1,1,1,0,0,0,0,1,1,1,0,0]) (O11 [1,0,1,1,1,1,1,1,1,0,0,0,0,1,1,1,0,0]).toList 0 #[g0,g1,.slice Y2 l2 y2,g3,g4,g5,g6,g7,g8,g9,gA,.slice Y11 l11 y11,gC,gD,gE,gF,gG,gH,gI,gJ,gK,gL,gM,gN,gO,gP,gQ,gR,gS,gT,gU,gV,gW,gX,gY,gZ,hA,hB,hC,hD,hE,hF,hG,hH,hI,hJ,hK,hL,hM,hN,hO,hP,hQ,hR,hS,hT,hU,hV,hW,hX,hY,hZ,h0,h1,h2,h3,h4,h5,h6,h7,h8,h9,jA,jB,jC,jD,jE,jF,jG,jH,jI,jJ,jK,jL,jM,jN,jO,jP,jQ,jR,jS,jT,jU,jV,jW,jX,jY] M K=K #[g0,g1,.slice Y2 l2 y2,g3,g4,g5,g6,g7,g8,g9,gA,.slice Y11 l11 y11,gC,gD,gE,gF,gG,gH,gI,gJ,gK,gL,gM,gN,gO,gP,gQ,gR,gS,gT,gU,gV,gW,gX,gY,gZ,hA,hB,hC,hD,hE,hF,hG,hH,hI,hJ,hK,hL,hM,hN,hO,hP,hQ,hR,.slice Y11 l11 y11,.int .i64 ((l11:Int)),.slice Y2 l2 y2,.int .i64 ((l2:Int)),.bool (decide (((l11:Int))<((l2:Int)))),hX,hY,hZ,h0,h1,h2,h3,h4,h5,h6,h7,h8,h9,jA,jB,jC,jD,jE,jF,jG,jH,jI,jJ,jK,jL,jM,jN,jO,jP,jQ,jR,jS,jT,jU,jV,jW,jX,jY] M:=by kernel_rfl
theorem c11_59:P11 [1,0,1,1,1,1,1,1,1,0,0,0,0,1,1,1,0,1]=.cond (.tmp 58) (P11 [1,0,1,1,1,1,1,1,1,0,0,0,0,1,1,1,0,1,0]) (P11 [1,0,1,1,1,1,1,1,1,0,0,0,0,1,1,1,0,1,1]):=by kernel_rfl
theorem k11_60:P11 [1,0,1,1,1,1,1,1,1,0,0,0,0,1,1,1,0,1,0]=.seq (P11 [1,0,1,1,1,1,1,1,1,0,0,0,0,1,1,1,0,1,0,0]) (P11 [1,0,1,1,1,1,1,1,1,0,0,0,0,1,1,1,0,1,0,1]):=by kernel_rfl
theorem k11_61:P11 [1,0,1,1,1,1,1,1,1,0,0,0,0,1,1,1,0,1,0,0]=.region 15 (O11 [1,0,1,1,1,1,1,1,1,0,0,0,0,1,1,1,0,1,0,0]) false:=by kernel_rfl
theorem r11_15 {Y12:Option Addr} {l12 y12:Nat} {M:Mem} {call:CallM} {K:Array Value→Mem→R} :
 opsK Try.prog (fun _=>call) (O11 [1,0,1,1,1,1,1,1,1,0,0,0,0,1,1,1,0,1,0,0]) (O11 [1,0,1,1,1,1,1,1,1,0,0,0,0,1,1,1,0,1,0,0]).toList 0 #[g0,g1,g2,g3,g4,g5,g6,g7,g8,g9,gA,gB,.slice Y12 l12 y12,gD,gE,gF,gG,gH,gI,gJ,gK,gL,gM,gN,gO,gP,gQ,gR,gS,gT,gU,gV,gW,gX,gY,gZ,hA,hB,hC,hD,hE,hF,hG,hH,hI,hJ,hK,hL,hM,hN,hO,hP,hQ,hR,hS,hT,hU,hV,hW,hX,hY,hZ,h0,h1,h2,h3,h4,h5,h6,h7,h8,h9,jA,jB,jC,jD,jE,jF,jG,jH,jI,jJ,jK,jL,jM,jN,jO,jP,jQ,jR,jS,jT,jU,jV,jW,jX,jY] M K=K #[g0,g1,g2,g3,g4,g5,g6,g7,g8,g9,gA,gB,.slice Y12 l12 y12,gD,gE,.int .i64 ((l12:Int)),gG,gH,gI,gJ,gK,gL,gM,gN,gO,gP,gQ,gR,gS,gT,gU,gV,gW,gX,gY,gZ,hA,hB,hC,hD,hE,hF,hG,hH,hI,hJ,hK,hL,hM,hN,hO,hP,hQ,hR,hS,hT,hU,hV,hW,.slice Y12 l12 y12,.int .i64 ((l12:Int)),hZ,h0,h1,h2,h3,h4,h5,h6,h7,h8,h9,jA,jB,jC,jD,jE,jF,jG,jH,jI,jJ,jK,jL,jM,jN,jO,jP,jQ,jR,jS,jT,jU,jV,jW,jX,jY] M:=by kernel_rfl
theorem k11_62:P11 [1,0,1,1,1,1,1,1,1,0,0,0,0,1,1,1,0,1,0,1]=.region 16 (O11 [1,0,1,1,1,1,1,1,1,0,0,0,0,1,1,1,0,1,0,1]) false:=by kernel_rfl
theorem r11_16 {Y2:Option Addr} {l2 y2:Nat} {Y11:Option Addr} {l11 y11:Nat} {x15:Int} {M:Mem} {call:CallM} {K:Array Value→Mem→R} :
 opsK Try.prog (fun _=>call) (O11 [1,0,1,1,1,1,1,1,1,0,0,0,0,1,1,1,0,1,0,1]) (O11 [1,0,1,1,1,1,1,1,1,0,0,0,0,1,1,1,0,1,0,1]).toList 0 #[g0,g1,.slice Y2 l2 y2,g3,g4,g5,g6,g7,g8,g9,gA,.slice Y11 l11 y11,gC,gD,gE,.int .i64 x15,gG,gH,gI,gJ,gK,gL,gM,gN,gO,gP,gQ,gR,gS,gT,gU,gV,gW,gX,gY,gZ,hA,hB,hC,hD,hE,hF,hG,hH,hI,hJ,hK,hL,hM,hN,hO,hP,hQ,hR,hS,hT,hU,hV,hW,hX,hY,hZ,h0,h1,h2,h3,h4,h5,h6,h7,h8,h9,jA,jB,jC,jD,jE,jF,jG,jH,jI,jJ,jK,jL,jM,jN,jO,jP,jQ,jR,jS,jT,jU,jV,jW,jX,jY] M K=(idxA Y2 l2 1 ((l11:Int))).bind fun a_1=>(M.intAt .i64 a_1.block a_1.off).bind fun x_2=>(binV Try.prog .rem 3 3 (.int .i64 x_2) (.int .i64 x15)).bind fun v_3=>(asI .i64 v_3).bind fun x_4=>(binV Try.prog .rem 3 3 (.int .i64 (IntKind.i64.wrap (x_4+x15))) (.int .i64 x15)).bind fun v_5=>(asI .i64 v_5).bind fun x_6=>K #[g0,g1,.slice Y2 l2 y2,g3,g4,g5,g6,g7,g8,g9,gA,.slice Y11 l11 y11,gC,gD,.int .i64 x_6,.int .i64 x15,gG,gH,gI,gJ,gK,gL,gM,gN,gO,gP,gQ,gR,gS,gT,gU,gV,gW,gX,gY,gZ,hA,hB,hC,hD,hE,hF,hG,hH,hI,hJ,hK,hL,hM,hN,hO,hP,hQ,hR,hS,hT,hU,hV,hW,hX,hY,.slice Y2 l2 y2,.slice Y11 l11 y11,.int .i64 ((l11:Int)),.pointer (some a_1),.int .i64 x_2,.int .i64 x15,.int .i64 x_4,.int .i64 x15,.int .i64 (IntKind.i64.wrap (x_4+x15)),.int .i64 x15,.int .i64 x_6,jA,jB,jC,jD,jE,jF,jG,jH,jI,jJ,jK,jL,jM,jN,jO,jP,jQ,jR,jS,jT,jU,jV,jW,jX,jY] M:=by kernel_rfl
theorem k11_63:P11 [1,0,1,1,1,1,1,1,1,0,0,0,0,1,1,1,1]=.seq (P11 [1,0,1,1,1,1,1,1,1,0,0,0,0,1,1,1,1,0]) (P11 [1,0,1,1,1,1,1,1,1,0,0,0,0,1,1,1,1,1]):=by kernel_rfl
theorem k11_64:P11 [1,0,1,1,1,1,1,1,1,0,0,0,0,1,1,1,1,0]=.region 17 (O11 [1,0,1,1,1,1,1,1,1,0,0,0,0,1,1,1,1,0]) false:=by kernel_rfl
theorem r11_17 {Y12:Option Addr} {l12 y12:Nat} {x14:Int} {M:Mem} {call:CallM} {K:Array Value→Mem→R} :
 opsK Try.prog (fun _=>call) (O11 [1,0,1,1,1,1,1,1,1,0,0,0,0,1,1,1,1,0]) (O11 [1,0,1,1,1,1,1,1,1,0,0,0,0,1,1,1,1,0]).toList 0 #[g0,g1,g2,g3,g4,g5,g6,g7,g8,g9,gA,gB,.slice Y12 l12 y12,gD,.int .i64 x14,gF,gG,gH,gI,gJ,gK,gL,gM,gN,gO,gP,gQ,gR,gS,gT,gU,gV,gW,gX,gY,gZ,hA,hB,hC,hD,hE,hF,hG,hH,hI,hJ,hK,hL,hM,hN,hO,hP,hQ,hR,hS,hT,hU,hV,hW,hX,hY,hZ,h0,h1,h2,h3,h4,h5,h6,h7,h8,h9,jA,jB,jC,jD,jE,jF,jG,jH,jI,jJ,jK,jL,jM,jN,jO,jP,jQ,jR,jS,jT,jU,jV,jW,jX,jY] M K=(idxA Y12 l12 1 x14).bind fun a_1=>(M.intAt .i64 a_1.block a_1.off).bind fun x_2=>K #[g0,g1,g2,g3,g4,g5,g6,g7,g8,g9,gA,gB,.slice Y12 l12 y12,gD,.int .i64 x14,gF,.int .i64 x_2,gH,gI,gJ,gK,gL,gM,gN,gO,gP,gQ,gR,gS,gT,gU,gV,gW,gX,gY,gZ,hA,hB,hC,hD,hE,hF,hG,hH,hI,hJ,hK,hL,hM,hN,hO,hP,hQ,hR,hS,hT,hU,hV,hW,hX,hY,hZ,h0,h1,h2,h3,h4,h5,h6,h7,h8,h9,.slice Y12 l12 y12,.int .i64 x14,.pointer (some a_1),.int .i64 x_2,jE,jF,jG,jH,jI,jJ,jK,jL,jM,jN,jO,jP,jQ,jR,jS,jT,jU,jV,jW,jX,jY] M:=by kernel_rfl
theorem k11_65:P11 [1,0,1,1,1,1,1,1,1,0,0,0,0,1,1,1,1,1]=.seq (P11 [1,0,1,1,1,1,1,1,1,0,0,0,0,1,1,1,1,1,0]) (P11 [1,0,1,1,1,1,1,1,1,0,0,0,0,1,1,1,1,1,1]):=by kernel_rfl
theorem k11_66:P11 [1,0,1,1,1,1,1,1,1,0,0,0,0,1,1,1,1,1,0]=.region 18 (O11 [1,0,1,1,1,1,1,1,1,0,0,0,0,1,1,1,1,1,0]) false:=by kernel_rfl
theorem r11_18 {Y11:Option Addr} {l11 y11:Nat} {x16:Int} {M:Mem} {call:CallM} {K:Array Value→Mem→R} :
 opsK Try.prog (fun _=>call) (O11 [1,0,1,1,1,1,1,1,1,0,0,0,0,1,1,1,1,1,0]) (O11 [1,0,1,1,1,1,1,1,1,0,0,0,0,1,1,1,1,1,0]).toList 0 #[g0,g1,g2,g3,g4,g5,g6,g7,g8,g9,gA,.slice Y11 l11 y11,gC,gD,gE,gF,.int .i64 x16,gH,gI,gJ,gK,gL,gM,gN,gO,gP,gQ,gR,gS,gT,gU,gV,gW,gX,gY,gZ,hA,hB,hC,hD,hE,hF,hG,hH,hI,hJ,hK,hL,hM,hN,hO,hP,hQ,hR,hS,hT,hU,hV,hW,hX,hY,hZ,h0,h1,h2,h3,h4,h5,h6,h7,h8,h9,jA,jB,jC,jD,jE,jF,jG,jH,jI,jJ,jK,jL,jM,jN,jO,jP,jQ,jR,jS,jT,jU,jV,jW,jX,jY] M K=(appendP Try.prog #[22,22] (.slice Y11 l11 y11) (.slice (some ⟨2*M.nb.size,0,none⟩) 1 1) (M.new (.cells #[.int .i64 x16] 3))).bind fun r_1=>(asS r_1.1).bind fun s_2=>K #[g0,g1,g2,g3,g4,g5,g6,g7,g8,g9,gA,.slice s_2.1 (s_2.2.1) (s_2.2.2),gC,gD,gE,gF,.int .i64 x16,gH,gI,gJ,gK,gL,gM,gN,gO,gP,gQ,gR,gS,gT,gU,gV,gW,gX,gY,gZ,hA,hB,hC,hD,hE,hF,hG,hH,hI,hJ,hK,hL,hM,hN,hO,hP,hQ,hR,hS,hT,hU,hV,hW,hX,hY,hZ,h0,h1,h2,h3,h4,h5,h6,h7,h8,h9,jA,jB,jC,jD,.slice Y11 l11 y11,.int .i64 x16,.slice (some ⟨2*M.nb.size,0,none⟩) 1 1,.slice s_2.1 (s_2.2.1) (s_2.2.2),jI,jJ,jK,jL,jM,jN,jO,jP,jQ,jR,jS,jT,jU,jV,jW,jX,jY] r_1.2:=by kernel_rfl
theorem k11_67:P11 [1,0,1,1,1,1,1,1,1,0,0,0,0,1,1,1,1,1,1]=.seq (P11 [1,0,1,1,1,1,1,1,1,0,0,0,0,1,1,1,1,1,1,0]) (P11 [1,0,1,1,1,1,1,1,1,0,0,0,0,1,1,1,1,1,1,1]):=by kernel_rfl
theorem k11_68:P11 [1,0,1,1,1,1,1,1,1,0,0,0,0,1,1,1,1,1,1,0]=.seq (P11 [1,0,1,1,1,1,1,1,1,0,0,0,0,1,1,1,1,1,1,0,0]) (P11 [1,0,1,1,1,1,1,1,1,0,0,0,0,1,1,1,1,1,1,0,1]):=by kernel_rfl
theorem k11_69:P11 [1,0,1,1,1,1,1,1,1,0,0,0,0,1,1,1,1,1,1,0,0]=.region 19 (O11 [1,0,1,1,1,1,1,1,1,0,0,0,0,1,1,1,1,1,1,0,0]) false:=by kernel_rfl
theorem r11_19 {Y10:Option Addr} {l10 y10:Nat} {x16:Int} {M:Mem} {call:CallM} {K:Array Value→Mem→R} :
 opsK Try.prog (fun _=>call) (O11 [1,0,1,1,1,1,1,1,1,0,0,0,0,1,1,1,1,1,1,0,0]) (O11 [1,0,1,1,1,1,1,1,1,0,0,0,0,1,1,1,1,1,1,0,0]).toList 0 #[g0,g1,g2,g3,g4,g5,g6,g7,g8,g9,.slice Y10 l10 y10,gB,gC,gD,gE,gF,.int .i64 x16,gH,gI,gJ,gK,gL,gM,gN,gO,gP,gQ,gR,gS,gT,gU,gV,gW,gX,gY,gZ,hA,hB,hC,hD,hE,hF,hG,hH,hI,hJ,hK,hL,hM,hN,hO,hP,hQ,hR,hS,hT,hU,hV,hW,hX,hY,hZ,h0,h1,h2,h3,h4,h5,h6,h7,h8,h9,jA,jB,jC,jD,jE,jF,jG,jH,jI,jJ,jK,jL,jM,jN,jO,jP,jQ,jR,jS,jT,jU,jV,jW,jX,jY] M K=(idxA Y10 l10 1 x16).bind fun a_1=>(M.intAt .i64 a_1.block a_1.off).bind fun x_2=>(idxA Y10 l10 1 x16).bind fun a_3=>(M.put a_3.block a_3.off (.int .i64 (IntKind.i64.wrap (x_2-1)))).bind fun M_4=>K #[g0,g1,g2,g3,g4,g5,g6,g7,g8,g9,.slice Y10 l10 y10,gB,gC,gD,gE,gF,.int .i64 x16,gH,gI,gJ,gK,gL,gM,gN,gO,gP,gQ,gR,gS,gT,gU,gV,gW,gX,gY,gZ,hA,hB,hC,hD,hE,hF,hG,hH,hI,hJ,hK,hL,hM,hN,hO,hP,hQ,hR,hS,hT,hU,hV,hW,hX,hY,hZ,h0,h1,h2,h3,h4,h5,h6,h7,h8,h9,jA,jB,jC,jD,jE,jF,jG,jH,.slice Y10 l10 y10,.int .i64 x16,.pointer (some a_1),.int .i64 x_2,.int .i64 (IntKind.i64.wrap (x_2-1)),.pointer (some a_3),jO,jP,jQ,jR,jS,jT,jU,jV,jW,jX,jY] M_4:=by kernel_rfl
theorem k11_70:P11 [1,0,1,1,1,1,1,1,1,0,0,0,0,1,1,1,1,1,1,0,1]=.seq (P11 [1,0,1,1,1,1,1,1,1,0,0,0,0,1,1,1,1,1,1,0,1,0]) (P11 [1,0,1,1,1,1,1,1,1,0,0,0,0,1,1,1,1,1,1,0,1,1]):=by kernel_rfl
theorem k11_71:P11 [1,0,1,1,1,1,1,1,1,0,0,0,0,1,1,1,1,1,1,0,1,0]=.region 20 (O11 [1,0,1,1,1,1,1,1,1,0,0,0,0,1,1,1,1,1,1,0,1,0]) false:=by kernel_rfl
theorem r11_20 {Y10:Option Addr} {l10 y10:Nat} {x16:Int} {M:Mem} {call:CallM} {K:Array Value→Mem→R} :
 opsK Try.prog (fun _=>call) (O11 [1,0,1,1,1,1,1,1,1,0,0,0,0,1,1,1,1,1,1,0,1,0]) (O11 [1,0,1,1,1,1,1,1,1,0,0,0,0,1,1,1,1,1,1,0,1,0]).toList 0 #[g0,g1,g2,g3,g4,g5,g6,g7,g8,g9,.slice Y10 l10 y10,gB,gC,gD,gE,gF,.int .i64 x16,gH,gI,gJ,gK,gL,gM,gN,gO,gP,gQ,gR,gS,gT,gU,gV,gW,gX,gY,gZ,hA,hB,hC,hD,hE,hF,hG,hH,hI,hJ,hK,hL,hM,hN,hO,hP,hQ,hR,hS,hT,hU,hV,hW,hX,hY,hZ,h0,h1,h2,h3,h4,h5,h6,h7,h8,h9,jA,jB,jC,jD,jE,jF,jG,jH,jI,jJ,jK,jL,jM,jN,jO,jP,jQ,jR,jS,jT,jU,jV,jW,jX,jY] M K=(idxA Y10 l10 1 x16).bind fun a_1=>(M.intAt .i64 a_1.block a_1.off).bind fun x_2=>K #[g0,g1,g2,g3,g4,g5,g6,g7,g8,g9,.slice Y10 l10 y10,gB,gC,gD,gE,gF,.int .i64 x16,gH,gI,gJ,gK,gL,gM,gN,gO,gP,gQ,gR,gS,gT,gU,gV,gW,gX,gY,gZ,hA,hB,hC,hD,hE,hF,hG,hH,hI,hJ,hK,hL,hM,hN,hO,hP,hQ,hR,hS,hT,hU,hV,hW,hX,hY,hZ,h0,h1,h2,h3,h4,h5,h6,h7,h8,h9,jA,jB,jC,jD,jE,jF,jG,jH,jI,jJ,jK,jL,jM,jN,.slice Y10 l10 y10,.int .i64 x16,.pointer (some a_1),.int .i64 x_2,.bool (decide (x_2>0)),jT,jU,jV,jW,jX,jY] M:=by kernel_rfl
theorem c11_72:P11 [1,0,1,1,1,1,1,1,1,0,0,0,0,1,1,1,1,1,1,0,1,1]=.cond (.tmp 90) (P11 [1,0,1,1,1,1,1,1,1,0,0,0,0,1,1,1,1,1,1,0,1,1,0]) (P11 [1,0,1,1,1,1,1,1,1,0,0,0,0,1,1,1,1,1,1,0,1,1,1]):=by kernel_rfl
theorem k11_73:P11 [1,0,1,1,1,1,1,1,1,0,0,0,0,1,1,1,1,1,1,0,1,1,0]=.exit 1:=by kernel_rfl
theorem k11_74:P11 [1,0,1,1,1,1,1,1,1,0,0,0,0,1,1,1,1,1,1,0,1,1,1]=.skip:=by kernel_rfl
theorem k11_75:P11 [1,0,1,1,1,1,1,1,1,0,0,0,0,1,1,1,1,1,1,1]=.region 21 (O11 [1,0,1,1,1,1,1,1,1,0,0,0,0,1,1,1,1,1,1,1]) false:=by kernel_rfl
theorem r11_21 {Y12:Option Addr} {l12 y12:Nat} {x14:Int} {M:Mem} {call:CallM} {K:Array Value→Mem→R} :
 opsK Try.prog (fun _=>call) (O11 [1,0,1,1,1,1,1,1,1,0,0,0,0,1,1,1,1,1,1,1]) (O11 [1,0,1,1,1,1,1,1,1,0,0,0,0,1,1,1,1,1,1,1]).toList 0 #[g0,g1,g2,g3,g4,g5,g6,g7,g8,g9,gA,gB,.slice Y12 l12 y12,gD,.int .i64 x14,gF,gG,gH,gI,gJ,gK,gL,gM,gN,gO,gP,gQ,gR,gS,gT,gU,gV,gW,gX,gY,gZ,hA,hB,hC,hD,hE,hF,hG,hH,hI,hJ,hK,hL,hM,hN,hO,hP,hQ,hR,hS,hT,hU,hV,hW,hX,hY,hZ,h0,h1,h2,h3,h4,h5,h6,h7,h8,h9,jA,jB,jC,jD,jE,jF,jG,jH,jI,jJ,jK,jL,jM,jN,jO,jP,jQ,jR,jS,jT,jU,jV,jW,jX,jY] M K=(call 30 #[.slice Y12 l12 y12,.int .i64 x14,.int .i64 (IntKind.i64.wrap (x14+1))] M).bind fun r_1=>(asS r_1.1).bind fun s_2=>K #[g0,g1,g2,g3,g4,g5,g6,g7,g8,g9,gA,gB,.slice s_2.1 (s_2.2.1) (s_2.2.2),gD,.int .i64 x14,gF,gG,gH,gI,gJ,gK,gL,gM,gN,gO,gP,gQ,gR,gS,gT,gU,gV,gW,gX,gY,gZ,hA,hB,hC,hD,hE,hF,hG,hH,hI,hJ,hK,hL,hM,hN,hO,hP,hQ,hR,hS,hT,hU,hV,hW,hX,hY,hZ,h0,h1,h2,h3,h4,h5,h6,h7,h8,h9,jA,jB,jC,jD,jE,jF,jG,jH,jI,jJ,jK,jL,jM,jN,jO,jP,jQ,jR,jS,.slice Y12 l12 y12,.int .i64 x14,.int .i64 x14,.int .i64 (IntKind.i64.wrap (x14+1)),.slice s_2.1 (s_2.2.1) (s_2.2.2),jY] r_1.2:=by kernel_rfl
theorem k11_76:P11 [1,0,1,1,1,1,1,1,1,0,0,0,0,1,1,1,0,1,1]=.skip:=by kernel_rfl
noncomputable def S11_1:List Item:=[.code (P11 [1,0,1,1,1,1,1,1,1,0,0,0]),.inLoop (P11 [1,0,1,1,1,1,1,1,1,0,0,0]),.inBlock 0,.code (P11 [1,0,1,1,1,1,1,1,1,1]),.inScope (P11 [1,0])]
def A11_1 (x1:Int) (Y2:Option Addr) (l2 y2:Nat) (Y10:Option Addr) (l10 y10:Nat) (Y11:Option Addr) (l11 y11:Nat) (Y12:Option Addr) (l12 y12:Nat) (x13:Int) (M:Mem) (Q:Value→Mem→Prop):Prop:=∀ (g0 g3 g4 g5 g6 g7 g8 g9 gE gF gG gH gI gJ gK gL gM gN gO gP gQ gR gS gT gU gV gW gX gY gZ hA hB hC hD hE hF hG hH hI hJ hK hL hM hN hO hP hQ hR hS hT hU hV hW hX hY hZ h0 h1 h2 h3 h4 h5 h6 h7 h8 h9 jA jB jC jD jE jF jG jH jI jJ jK jL jM jN jO jP jQ jR jS jT jU jV jW jX jY:Value),Rn Try.prog Try.f11 S11_1 #[g0,.int .i64 x1,.slice Y2 l2 y2,g3,g4,g5,g6,g7,g8,g9,.slice Y10 l10 y10,.slice Y11 l11 y11,.slice Y12 l12 y12,.int .i64 x13,gE,gF,gG,gH,gI,gJ,gK,gL,gM,gN,gO,gP,gQ,gR,gS,gT,gU,gV,gW,gX,gY,gZ,hA,hB,hC,hD,hE,hF,hG,hH,hI,hJ,hK,hL,hM,hN,hO,hP,hQ,hR,hS,hT,hU,hV,hW,hX,hY,hZ,h0,h1,h2,h3,h4,h5,h6,h7,h8,h9,jA,jB,jC,jD,jE,jF,jG,jH,jI,jJ,jK,jL,jM,jN,jO,jP,jQ,jR,jS,jT,jU,jV,jW,jX,jY] M Q
noncomputable def S11_2:List Item:=[.code (P11 [1,0,1,1,1,1,1,1,1,0,0,0,0,0,0,0]),.inLoop (P11 [1,0,1,1,1,1,1,1,1,0,0,0,0,0,0,0]),.inBlock 2,.code (P11 [1,0,1,1,1,1,1,1,1,0,0,0,0,1]),.inBlock 1,.inLoop (P11 [1,0,1,1,1,1,1,1,1,0,0,0]),.inBlock 0,.code (P11 [1,0,1,1,1,1,1,1,1,1]),.inScope (P11 [1,0])]
def A11_2 (x1:Int) (Y2:Option Addr) (l2 y2:Nat) (Y10:Option Addr) (l10 y10:Nat) (Y11:Option Addr) (l11 y11:Nat) (Y12:Option Addr) (l12 y12:Nat) (x13:Int) (M:Mem) (Q:Value→Mem→Prop):Prop:=∀ (g0 g3 g4 g5 g6 g7 g8 g9 gE gF gG gH gI gJ gK gL gM gN gO gP gQ gR gS gT gU gV gW gX gY gZ hA hB hC hD hE hF hG hH hI hJ hK hL hM hN hO hP hQ hR hS hT hU hV hW hX hY hZ h0 h1 h2 h3 h4 h5 h6 h7 h8 h9 jA jB jC jD jE jF jG jH jI jJ jK jL jM jN jO jP jQ jR jS jT jU jV jW jX jY:Value),Rn Try.prog Try.f11 S11_2 #[g0,.int .i64 x1,.slice Y2 l2 y2,g3,g4,g5,g6,g7,g8,g9,.slice Y10 l10 y10,.slice Y11 l11 y11,.slice Y12 l12 y12,.int .i64 x13,gE,gF,gG,gH,gI,gJ,gK,gL,gM,gN,gO,gP,gQ,gR,gS,gT,gU,gV,gW,gX,gY,gZ,hA,hB,hC,hD,hE,hF,hG,hH,hI,hJ,hK,hL,hM,hN,hO,hP,hQ,hR,hS,hT,hU,hV,hW,hX,hY,hZ,h0,h1,h2,h3,h4,h5,h6,h7,h8,h9,jA,jB,jC,jD,jE,jF,jG,jH,jI,jJ,jK,jL,jM,jN,jO,jP,jQ,jR,jS,jT,jU,jV,jW,jX,jY] M Q
noncomputable def S11_3:List Item:=[.code (P11 [1,0,1,1,1,1,1,1,1,0,0,0,0,0,0,0,0,1]),.code (P11 [1,0,1,1,1,1,1,1,1,0,0,0,0,0,0,0,1]),.inLoop (P11 [1,0,1,1,1,1,1,1,1,0,0,0,0,0,0,0]),.inBlock 2,.code (P11 [1,0,1,1,1,1,1,1,1,0,0,0,0,1]),.inBlock 1,.inLoop (P11 [1,0,1,1,1,1,1,1,1,0,0,0]),.inBlock 0,.code (P11 [1,0,1,1,1,1,1,1,1,1]),.inScope (P11 [1,0])]
def A11_3 (x1:Int) (Y2:Option Addr) (l2 y2:Nat) (Y10:Option Addr) (l10 y10:Nat) (Y11:Option Addr) (l11 y11:Nat) (Y12:Option Addr) (l12 y12:Nat) (x13:Int) (x39:Bool) (M:Mem) (Q:Value→Mem→Prop):Prop:=∀ (g0 g3 g4 g5 g6 g7 g8 g9 gE gF gG gH gI gJ gK gL gM gN gO gP gQ gR gS gT gU gV gW gX gY gZ hA hB hC hE hF hG hH hI hJ hK hL hM hN hO hP hQ hR hS hT hU hV hW hX hY hZ h0 h1 h2 h3 h4 h5 h6 h7 h8 h9 jA jB jC jD jE jF jG jH jI jJ jK jL jM jN jO jP jQ jR jS jT jU jV jW jX jY:Value),Rn Try.prog Try.f11 S11_3 #[g0,.int .i64 x1,.slice Y2 l2 y2,g3,g4,g5,g6,g7,g8,g9,.slice Y10 l10 y10,.slice Y11 l11 y11,.slice Y12 l12 y12,.int .i64 x13,gE,gF,gG,gH,gI,gJ,gK,gL,gM,gN,gO,gP,gQ,gR,gS,gT,gU,gV,gW,gX,gY,gZ,hA,hB,hC,.bool x39,hE,hF,hG,hH,hI,hJ,hK,hL,hM,hN,hO,hP,hQ,hR,hS,hT,hU,hV,hW,hX,hY,hZ,h0,h1,h2,h3,h4,h5,h6,h7,h8,h9,jA,jB,jC,jD,jE,jF,jG,jH,jI,jJ,jK,jL,jM,jN,jO,jP,jQ,jR,jS,jT,jU,jV,jW,jX,jY] M Q
theorem w11_0 {Y0:Option Addr} {l0 y0:Nat} {x1:Int} {Y2:Option Addr} {l2 y2:Nat} {M:Mem} {Q:Value→Mem→Prop} (H :
 Cn Try.prog 28 #[.slice Y0 l0 y0,.int .i64 x1] M fun v1' N1'=>
 ∃cs2',asU 2 v1'=some cs2'∧
 ∃x3',asI .i64 (cs2'.getD 0 undef)=some x3'∧
 ∃x4',asI .i64 (cs2'.getD 1 undef)=some x4'∧
 ((x4'≠0→
 Q (.tuple #[.slice none 0 0,.int .i64 (x4')]) N1')∧
 (x4'=0→
 Cn Try.prog 29 #[.slice Y0 l0 y0] N1' fun v5' N5'=>
 ∃s6',asS v5'=some s6'∧
 ∃r7',makeP Try.prog 22 (.int .i64 0) (.int .i64 x3') N5'=some r7'∧
 ∃s8',asS r7'.1=some s8'∧
 A11_1 x1 Y2 l2 y2 s6'.1 s6'.2.1 s6'.2.2 s8'.1 s8'.2.1 s8'.2.2 none 0 0 0 r7'.2 Q))):
 Cn Try.prog 11 #[.slice Y0 l0 y0,.int .i64 x1,.slice Y2 l2 y2] M Q:=by
  refine Cn.of b11 d11 t11 ?_
  refine Rn.seq k11_0 (Rn.region k11_1 (fun call K=>r11_0) (Rch.leaf (Rn.scope k11_2 (Rn.seq k11_3 (Rn.region k11_4 (fun call K=>r11_1) (Rch.call H fun v1' N1' H=>Rch.ex H fun cs2' H=>Rch.ex H fun x3' H=>Rch.ex H fun x4' H=>Rch.leaf (Rn.seq k11_5 ?_)))))))
  refine Rn.seq k11_6 (Rn.region k11_7 (fun call K=>r11_2) (Rch.leaf ?_))
  refine Rn.cnd (v:=x4' != 0) ⟨c11_8,rfl,by kernel_rfl⟩ (fun h=>?_) (fun h=>?_)
  · replace H:=H.1 (ne_of_bneT h)
    refine Rn.seq k11_9 (Rn.region k11_10 (fun call K=>r11_3) (Rch.leaf ?_))
    exact Rn.ret k11_11 e11 H
  · replace H:=H.2 (eq_of_bneF h)
    refine Rn.skip k11_13 (Rn.seq k11_14 (Rn.region k11_15 (fun call K=>r11_4) (Rch.call H fun v5' N5' H=>Rch.ex H fun s6' H=>Rch.leaf (Rn.seq k11_16 (Rn.region k11_17 (fun call K=>r11_5) (Rch.ex H fun r7' H=>Rch.ex H fun s8' H=>Rch.leaf (Rn.seq k11_18 ?_)))))))
    refine Rn.region k11_19 (fun call K=>r11_6) (Rch.leaf (Rn.seq k11_20 (Rn.region k11_21 (fun call K=>r11_7) (Rch.leaf (Rn.seq k11_22 (Rn.label k11_23 (Rn.seq k11_24 (Rn.block k11_25 (Rn.loop k11_26 ?_)))))))))
    exact H ..
theorem w11_1 {x1:Int} {Y2:Option Addr} {l2 y2:Nat} {Y10:Option Addr} {l10 y10:Nat} {Y11:Option Addr} {l11 y11:Nat} {Y12:Option Addr} {l12 y12:Nat} {x13:Int} {M:Mem} {Q:Value→Mem→Prop} (H :
 A11_2 x1 Y2 l2 y2 Y10 l10 y10 Y11 l11 y11 Y12 l12 y12 x13 M Q):
 A11_1 x1 Y2 l2 y2 Y10 l10 y10 Y11 l11 y11 Y12 l12 y12 x13 M Q:=by
  iterate 91 intro _
  refine Rn.block k11_27 (Rn.seq k11_28 (Rn.block k11_29 (Rn.loop k11_30 ?_)))
  exact H ..
theorem w11_2 {x1:Int} {Y2:Option Addr} {l2 y2:Nat} {Y10:Option Addr} {l10 y10:Nat} {Y11:Option Addr} {l11 y11:Nat} {Y12:Option Addr} {l12 y12:Nat} {x13:Int} {M:Mem} {Q:Value→Mem→Prop} (H :
 ((((l12:Int))<x1→
 A11_3 x1 Y2 l2 y2 Y10 l10 y10 Y11 l11 y11 Y12 l12 y12 x13 (decide (x13<((l10:Int)))) M Q)∧
 (¬(((l12:Int))<x1)→
 A11_3 x1 Y2 l2 y2 Y10 l10 y10 Y11 l11 y11 Y12 l12 y12 x13 false M Q))):
 A11_2 x1 Y2 l2 y2 Y10 l10 y10 Y11 l11 y11 Y12 l12 y12 x13 M Q:=by
  iterate 91 intro _
  refine Rn.seq k11_31 (Rn.seq k11_32 (Rn.region k11_33 (fun call K=>r11_8) ?_))
  refine Rch.cB (fun h=>?_) (fun h=>?_)
  · replace H:=H.1 (of_decide_eq_true h)
    refine Rch.leaf ?_
    exact H ..
  · replace H:=H.2 (of_decide_eq_false h)
    refine Rch.leaf ?_
    exact H ..
theorem w11_3 {x1:Int} {Y2:Option Addr} {l2 y2:Nat} {Y10:Option Addr} {l10 y10:Nat} {Y11:Option Addr} {l11 y11:Nat} {Y12:Option Addr} {l12 y12:Nat} {x13:Int} {x39:Bool} {M:Mem} {Q:Value→Mem→Prop} (H :
 ((x39=true→
 ∃a9',idxA Y10 l10 1 x13=some a9'∧
 ∃x10',M.intAt .i64 a9'.block a9'.off=some x10'∧
 ((x10'>0→
 ∃r11',appendP Try.prog #[22,22] (.slice Y12 l12 y12) (.slice (some ⟨2*M.nb.size,0,none⟩) 1 1) (M.new (.cells #[.int .i64 x13] 3))=some r11'∧
 ∃s12',asS r11'.1=some s12'∧
 A11_2 x1 Y2 l2 y2 Y10 l10 y10 Y11 l11 y11 s12'.1 s12'.2.1 s12'.2.2 (IntKind.i64.wrap (x13+1)) r11'.2 Q)∧
 (¬(x10'>0)→
 A11_2 x1 Y2 l2 y2 Y10 l10 y10 Y11 l11 y11 Y12 l12 y12 (IntKind.i64.wrap (x13+1)) M Q)))∧
 (x39=false→
 ((((l12:Int))=0→
 Q (.tuple #[.slice Y11 l11 y11,.int .i64 0]) M)∧
 (((l12:Int))≠0→
 ((((l11:Int))<((l2:Int))→
 ∃a13',idxA Y2 l2 1 ((l11:Int))=some a13'∧
 ∃x14',M.intAt .i64 a13'.block a13'.off=some x14'∧
 ∃v15',binV Try.prog .rem 3 3 (.int .i64 x14') (.int .i64 (l12:Int))=some v15'∧
 ∃x16',asI .i64 v15'=some x16'∧
 ∃v17',binV Try.prog .rem 3 3 (.int .i64 (IntKind.i64.wrap (x16'+(l12:Int)))) (.int .i64 (l12:Int))=some v17'∧
 ∃x18',asI .i64 v17'=some x18'∧
 ∃a19',idxA Y12 l12 1 x18'=some a19'∧
 ∃x20',M.intAt .i64 a19'.block a19'.off=some x20'∧
 ∃r21',appendP Try.prog #[22,22] (.slice Y11 l11 y11) (.slice (some ⟨2*M.nb.size,0,none⟩) 1 1) (M.new (.cells #[.int .i64 x20'] 3))=some r21'∧
 ∃s22',asS r21'.1=some s22'∧
 ∃a23',idxA Y10 l10 1 x20'=some a23'∧
 ∃x24',r21'.2.intAt .i64 a23'.block a23'.off=some x24'∧
 ∃a25',idxA Y10 l10 1 x20'=some a25'∧
 ∃M26',r21'.2.put a25'.block a25'.off (.int .i64 (IntKind.i64.wrap (x24'-1)))=some M26'∧
 ∃a27',idxA Y10 l10 1 x20'=some a27'∧
 ∃x28',M26'.intAt .i64 a27'.block a27'.off=some x28'∧
 ((x28'>0→
 A11_1 x1 Y2 l2 y2 Y10 l10 y10 s22'.1 s22'.2.1 s22'.2.2 Y12 l12 y12 x13 M26' Q)∧
 (¬(x28'>0)→
 Cn Try.prog 30 #[.slice Y12 l12 y12,.int .i64 x18',.int .i64 (IntKind.i64.wrap (x18'+1))] M26' fun v29' N29'=>
 ∃s30',asS v29'=some s30'∧
 A11_1 x1 Y2 l2 y2 Y10 l10 y10 s22'.1 s22'.2.1 s22'.2.2 s30'.1 s30'.2.1 s30'.2.2 x13 N29' Q)))∧
 (¬(((l11:Int))<((l2:Int)))→
 ∃a31',idxA Y12 l12 1 0=some a31'∧
 ∃x32',M.intAt .i64 a31'.block a31'.off=some x32'∧
 ∃r33',appendP Try.prog #[22,22] (.slice Y11 l11 y11) (.slice (some ⟨2*M.nb.size,0,none⟩) 1 1) (M.new (.cells #[.int .i64 x32'] 3))=some r33'∧
 ∃s34',asS r33'.1=some s34'∧
 ∃a35',idxA Y10 l10 1 x32'=some a35'∧
 ∃x36',r33'.2.intAt .i64 a35'.block a35'.off=some x36'∧
 ∃a37',idxA Y10 l10 1 x32'=some a37'∧
 ∃M38',r33'.2.put a37'.block a37'.off (.int .i64 (IntKind.i64.wrap (x36'-1)))=some M38'∧
 ∃a39',idxA Y10 l10 1 x32'=some a39'∧
 ∃x40',M38'.intAt .i64 a39'.block a39'.off=some x40'∧
 ((x40'>0→
 A11_1 x1 Y2 l2 y2 Y10 l10 y10 s34'.1 s34'.2.1 s34'.2.2 Y12 l12 y12 x13 M38' Q)∧
 (¬(x40'>0)→
 Cn Try.prog 30 #[.slice Y12 l12 y12,.int .i64 0,.int .i64 (IntKind.i64.wrap (0+1))] M38' fun v41' N41'=>
 ∃s42',asS v41'=some s42'∧
 A11_1 x1 Y2 l2 y2 Y10 l10 y10 s34'.1 s34'.2.1 s34'.2.2 s42'.1 s42'.2.1 s42'.2.2 x13 N41' Q))))))))):
 A11_3 x1 Y2 l2 y2 Y10 l10 y10 Y11 l11 y11 Y12 l12 y12 x13 x39 M Q:=by
  iterate 90 intro _
  refine Rn.cnd (v:=x39) ⟨c11_34,rfl,by kernel_rfl⟩ (fun h=>?_) (fun h=>?_)
  · replace H:=H.1 (h)
    refine Rn.skip k11_35 (Rn.block k11_36 (Rn.seq k11_37 (Rn.seq k11_38 (Rn.region k11_39 (fun call K=>r11_9) (Rch.ex H fun a9' H=>Rch.ex H fun x10' H=>Rch.leaf ?_)))))
    refine Rn.cnd (v:=decide (x10'>0)) ⟨c11_40,rfl,by kernel_rfl⟩ (fun h=>?_) (fun h=>?_)
    · replace H:=H.1 (of_decide_eq_true h)
      refine Rn.region k11_41 (fun call K=>r11_10) (Rch.ex H fun r11' H=>Rch.ex H fun s12' H=>Rch.leaf (Rn.region k11_42 (fun call K=>r11_11) (Rch.leaf (Rn.blk (Rn.lp ?_)))))
      exact H ..
    · replace H:=H.2 (of_decide_eq_false h)
      refine Rn.skip k11_43 (Rn.region k11_42 (fun call K=>r11_11) (Rch.leaf (Rn.blk (Rn.lp ?_))))
      exact H ..
  · replace H:=H.2 (h)
    refine Rn.exit k11_44 rfl (Rn.seq k11_45 (Rn.seq k11_46 (Rn.region k11_47 (fun call K=>r11_12) (Rch.leaf ?_))))
    refine Rn.cnd (v:=((l12:Int)) == 0) ⟨c11_48,rfl,by kernel_rfl⟩ (fun h=>?_) (fun h=>?_)
    · replace H:=H.1 (eq_of_beq h)
      refine Rn.exit k11_49 rfl (Rn.seq k11_50 (Rn.region k11_51 (fun call K=>r11_22) (Rch.leaf ?_)))
      exact Rn.ret k11_52 e11 H
    · replace H:=H.2 (ne_of_beq_false h)
      refine Rn.skip k11_53 (Rn.seq k11_54 (Rn.region k11_55 (fun call K=>r11_13) (Rch.leaf (Rn.seq k11_56 (Rn.seq k11_57 (Rn.region k11_58 (fun call K=>r11_14) (Rch.leaf ?_)))))))
      refine Rn.cnd (v:=decide (((l11:Int))<((l2:Int)))) ⟨c11_59,rfl,by kernel_rfl⟩ (fun h=>?_) (fun h=>?_)
      · replace H:=H.1 (of_decide_eq_true h)
        refine Rn.seq k11_60 (Rn.region k11_61 (fun call K=>r11_15) (Rch.leaf (Rn.region k11_62 (fun call K=>r11_16) (Rch.ex H fun a13' H=>Rch.ex H fun x14' H=>Rch.ex H fun v15' H=>Rch.ex H fun x16' H=>Rch.ex H fun v17' H=>Rch.ex H fun x18' H=>Rch.leaf (Rn.seq k11_63 ?_)))))
        refine Rn.region k11_64 (fun call K=>r11_17) (Rch.ex H fun a19' H=>Rch.ex H fun x20' H=>Rch.leaf (Rn.seq k11_65 (Rn.region k11_66 (fun call K=>r11_18) (Rch.ex H fun r21' H=>Rch.ex H fun s22' H=>Rch.leaf (Rn.seq k11_67 (Rn.seq k11_68 (Rn.region k11_69 (fun call K=>r11_19) ?_)))))))
        refine Rch.ex H fun a23' H=>Rch.ex H fun x24' H=>Rch.ex H fun a25' H=>Rch.ex H fun M26' H=>Rch.leaf (Rn.seq k11_70 (Rn.region k11_71 (fun call K=>r11_20) (Rch.ex H fun a27' H=>Rch.ex H fun x28' H=>Rch.leaf ?_)))
        refine Rn.cnd (v:=decide (x28'>0)) ⟨c11_72,rfl,by kernel_rfl⟩ (fun h=>?_) (fun h=>?_)
        · replace H:=H.1 (of_decide_eq_true h)
          refine Rn.exit k11_73 rfl (Rn.lp ?_)
          exact H ..
        · replace H:=H.2 (of_decide_eq_false h)
          refine Rn.skip k11_74 (Rn.region k11_75 (fun call K=>r11_21) (Rch.call H fun v29' N29' H=>Rch.ex H fun s30' H=>Rch.leaf (Rn.blk (Rn.lp ?_))))
          exact H ..
      · replace H:=H.2 (of_decide_eq_false h)
        refine Rn.skip k11_76 (Rn.seq k11_63 (Rn.region k11_64 (fun call K=>r11_17) (Rch.ex H fun a31' H=>Rch.ex H fun x32' H=>Rch.leaf (Rn.seq k11_65 (Rn.region k11_66 (fun call K=>r11_18) (Rch.ex H fun r33' H=>Rch.ex H fun s34' H=>Rch.leaf (Rn.seq k11_67 ?_)))))))
        refine Rn.seq k11_68 (Rn.region k11_69 (fun call K=>r11_19) (Rch.ex H fun a35' H=>Rch.ex H fun x36' H=>Rch.ex H fun a37' H=>Rch.ex H fun M38' H=>Rch.leaf (Rn.seq k11_70 (Rn.region k11_71 (fun call K=>r11_20) (Rch.ex H fun a39' H=>Rch.ex H fun x40' H=>Rch.leaf ?_)))))
        refine Rn.cnd (v:=decide (x40'>0)) ⟨c11_72,rfl,by kernel_rfl⟩ (fun h=>?_) (fun h=>?_)
        · replace H:=H.1 (of_decide_eq_true h)
          refine Rn.exit k11_73 rfl (Rn.lp ?_)
          exact H ..
        · replace H:=H.2 (of_decide_eq_false h)
          refine Rn.skip k11_74 (Rn.region k11_75 (fun call K=>r11_21) (Rch.call H fun v41' N41' H=>Rch.ex H fun s42' H=>Rch.leaf (Rn.blk (Rn.lp ?_))))
          exact H ..
noncomputable abbrev P12 (p:List Nat):Code:=subC (codeOf Try.f12) p
noncomputable abbrev O12 (p:List Nat):Array Oper:=opsOf (subC (codeOf Try.f12) p)
theorem b12:Try.prog.funcs[12]?=some Try.f12∧(Orc.tab Try.prog).lookup 12=none:=⟨by kernel_rfl,by kernel_rfl⟩
theorem d12:Try.f12.body=some (P12 []):=by kernel_rfl
theorem t12 {Y0:Option Addr} {l0 y0:Nat} {x1:Int} {Y2:Option Addr} {l2 y2:Nat}:#[.slice Y0 l0 y0,.int .i64 x1,.slice Y2 l2 y2] ++ Array.replicate (Try.f12.ntmps-(#[.slice Y0 l0 y0,.int .i64 x1,.slice Y2 l2 y2]:Array Value).size) undef=#[.slice Y0 l0 y0,.int .i64 x1,.slice Y2 l2 y2,undef,undef,undef,undef,undef,undef,undef,undef,undef,undef,undef,undef,undef,undef,undef,undef,undef,undef,undef,undef,undef,undef,undef,undef,undef,undef,undef,undef,undef,undef,undef,undef,undef,undef,undef,undef,undef,undef,undef,undef,undef,undef,undef,undef,undef,undef,undef,undef,undef,undef,undef,undef,undef,undef,undef,undef,undef,undef,undef,undef,undef,undef,undef,undef,undef,undef,undef,undef,undef,undef,undef,undef,undef,undef,undef,undef,undef,undef,undef,undef,undef,undef,undef,undef,undef,undef,undef,undef,undef,undef,undef,undef,undef,undef,undef,undef,undef,undef,undef,undef,undef,undef,undef]:=by kernel_rfl
theorem k12_0:P12 []=.seq (P12 [0]) (P12 [1]):=by kernel_rfl
theorem k12_1:P12 [0]=.region 0 (O12 [0]) false:=by kernel_rfl
theorem r12_0 {M:Mem} {call:CallM} {K:Array Value→Mem→R} :
 opsK Try.prog (fun _=>call) (O12 [0]) (O12 [0]).toList 0 #[g0,g1,g2,g3,g4,g5,g6,g7,g8,g9,gA,gB,gC,gD,gE,gF,gG,gH,gI,gJ,gK,gL,gM,gN,gO,gP,gQ,gR,gS,gT,gU,gV,gW,gX,gY,gZ,hA,hB,hC,hD,hE,hF,hG,hH,hI,hJ,hK,hL,hM,hN,hO,hP,hQ,hR,hS,hT,hU,hV,hW,hX,hY,hZ,h0,h1,h2,h3,h4,h5,h6,h7,h8,h9,jA,jB,jC,jD,jE,jF,jG,jH,jI,jJ,jK,jL,jM,jN,jO,jP,jQ,jR,jS,jT,jU,jV,jW,jX,jY,jZ,j0,j1,j2,j3,j4,j5,j6,j7] M K=K #[g0,g1,g2,g3,g4,g5,.slice none 0 0,.int .i64 0,g8,g9,gA,gB,gC,gD,gE,gF,gG,gH,gI,gJ,gK,gL,gM,gN,gO,gP,gQ,gR,gS,gT,gU,gV,gW,gX,gY,gZ,hA,hB,hC,hD,hE,hF,hG,hH,hI,hJ,hK,hL,hM,hN,hO,hP,hQ,hR,hS,hT,hU,hV,hW,hX,hY,hZ,h0,h1,h2,h3,h4,h5,h6,h7,h8,h9,jA,jB,jC,jD,jE,jF,jG,jH,jI,jJ,jK,jL,jM,jN,jO,jP,jQ,jR,jS,jT,jU,jV,jW,jX,jY,jZ,j0,j1,j2,j3,j4,j5,j6,j7] M:=by kernel_rfl
theorem k12_2:P12 [1]=.seq (P12 [1,0]) (P12 [1,1]):=by kernel_rfl
theorem k12_3:P12 [1,0]=.seq (P12 [1,0,0]) (P12 [1,0,1]):=by kernel_rfl
theorem k12_4:P12 [1,0,0]=.region 1 (O12 [1,0,0]) false:=by kernel_rfl
theorem r12_1 {Y0:Option Addr} {l0 y0:Nat} {M:Mem} {call:CallM} {K:Array Value→Mem→R} :
 opsK Try.prog (fun _=>call) (O12 [1,0,0]) (O12 [1,0,0]).toList 0 #[.slice Y0 l0 y0,g1,g2,g3,g4,g5,g6,g7,g8,g9,gA,gB,gC,gD,gE,gF,gG,gH,gI,gJ,gK,gL,gM,gN,gO,gP,gQ,gR,gS,gT,gU,gV,gW,gX,gY,gZ,hA,hB,hC,hD,hE,hF,hG,hH,hI,hJ,hK,hL,hM,hN,hO,hP,hQ,hR,hS,hT,hU,hV,hW,hX,hY,hZ,h0,h1,h2,h3,h4,h5,h6,h7,h8,h9,jA,jB,jC,jD,jE,jF,jG,jH,jI,jJ,jK,jL,jM,jN,jO,jP,jQ,jR,jS,jT,jU,jV,jW,jX,jY,jZ,j0,j1,j2,j3,j4,j5,j6,j7] M K=K #[.slice Y0 l0 y0,g1,g2,g3,g4,g5,g6,g7,g8,g9,gA,gB,gC,gD,gE,.slice Y0 l0 y0,.int .i64 ((l0:Int)),.bool (decide (((l0:Int))>256)),gI,gJ,gK,gL,gM,gN,gO,gP,gQ,gR,gS,gT,gU,gV,gW,gX,gY,gZ,hA,hB,hC,hD,hE,hF,hG,hH,hI,hJ,hK,hL,hM,hN,hO,hP,hQ,hR,hS,hT,hU,hV,hW,hX,hY,hZ,h0,h1,h2,h3,h4,h5,h6,h7,h8,h9,jA,jB,jC,jD,jE,jF,jG,jH,jI,jJ,jK,jL,jM,jN,jO,jP,jQ,jR,jS,jT,jU,jV,jW,jX,jY,jZ,j0,j1,j2,j3,j4,j5,j6,j7] M:=by kernel_rfl
theorem c12_5:P12 [1,0,1]=.cond (.tmp 17) (P12 [1,0,1,0]) (P12 [1,0,1,1]):=by kernel_rfl
theorem k12_6:P12 [1,0,1,0]=.seq (P12 [1,0,1,0,0]) (P12 [1,0,1,0,1]):=by kernel_rfl
theorem k12_7:P12 [1,0,1,0,0]=.region 2 (O12 [1,0,1,0,0]) false:=by kernel_rfl
theorem r12_2 {M:Mem} {call:CallM} {K:Array Value→Mem→R} :
 opsK Try.prog (fun _=>call) (O12 [1,0,1,0,0]) (O12 [1,0,1,0,0]).toList 0 #[g0,g1,g2,g3,g4,g5,g6,g7,g8,g9,gA,gB,gC,gD,gE,gF,gG,gH,gI,gJ,gK,gL,gM,gN,gO,gP,gQ,gR,gS,gT,gU,gV,gW,gX,gY,gZ,hA,hB,hC,hD,hE,hF,hG,hH,hI,hJ,hK,hL,hM,hN,hO,hP,hQ,hR,hS,hT,hU,hV,hW,hX,hY,hZ,h0,h1,h2,h3,h4,h5,h6,h7,h8,h9,jA,jB,jC,jD,jE,jF,jG,jH,jI,jJ,jK,jL,jM,jN,jO,jP,jQ,jR,jS,jT,jU,jV,jW,jX,jY,jZ,j0,j1,j2,j3,j4,j5,j6,j7] M K=K #[g0,g1,g2,g3,g4,g5,.slice none 0 0,.int .i64 7,g8,g9,gA,gB,gC,gD,gE,gF,gG,gH,gI,gJ,gK,gL,gM,gN,gO,gP,gQ,gR,gS,gT,gU,gV,gW,gX,gY,gZ,hA,hB,hC,hD,hE,hF,hG,hH,hI,hJ,hK,hL,hM,hN,hO,hP,hQ,hR,hS,hT,hU,hV,hW,hX,hY,hZ,h0,h1,h2,h3,h4,h5,h6,h7,h8,h9,jA,jB,jC,jD,jE,jF,jG,jH,jI,jJ,jK,jL,jM,jN,jO,jP,jQ,jR,jS,jT,jU,jV,jW,jX,jY,jZ,j0,j1,j2,j3,j4,j5,j6,j7] M:=by kernel_rfl
theorem k12_8:P12 [1,0,1,0,1]=.ret:=by kernel_rfl
theorem e12 {M:Mem}:finish Try.prog Try.f12 #[g0,g1,g2,g3,g4,g5,g6,g7,g8,g9,gA,gB,gC,gD,gE,gF,gG,gH,gI,gJ,gK,gL,gM,gN,gO,gP,gQ,gR,gS,gT,gU,gV,gW,gX,gY,gZ,hA,hB,hC,hD,hE,hF,hG,hH,hI,hJ,hK,hL,hM,hN,hO,hP,hQ,hR,hS,hT,hU,hV,hW,hX,hY,hZ,h0,h1,h2,h3,h4,h5,h6,h7,h8,h9,jA,jB,jC,jD,jE,jF,jG,jH,jI,jJ,jK,jL,jM,jN,jO,jP,jQ,jR,jS,jT,jU,jV,jW,jX,jY,jZ,j0,j1,j2,j3,j4,j5,j6,j7] M=some (.tuple #[g6,g7],M):=by kernel_rfl
theorem k12_10:P12 [1,0,1,1]=.skip:=by kernel_rfl
theorem k12_11:P12 [1,1]=.seq (P12 [1,1,0]) (P12 [1,1,1]):=by kernel_rfl
theorem k12_12:P12 [1,1,0]=.region 3 (O12 [1,1,0]) false:=by kernel_rfl
theorem r12_3 {M:Mem} {call:CallM} {K:Array Value→Mem→R} :
 opsK Try.prog (fun _=>call) (O12 [1,1,0]) (O12 [1,1,0]).toList 0 #[g0,g1,g2,g3,g4,g5,g6,g7,g8,g9,gA,gB,gC,gD,gE,gF,gG,gH,gI,gJ,gK,gL,gM,gN,gO,gP,gQ,gR,gS,gT,gU,gV,gW,gX,gY,gZ,hA,hB,hC,hD,hE,hF,hG,hH,hI,hJ,hK,hL,hM,hN,hO,hP,hQ,hR,hS,hT,hU,hV,hW,hX,hY,hZ,h0,h1,h2,h3,h4,h5,h6,h7,h8,h9,jA,jB,jC,jD,jE,jF,jG,jH,jI,jJ,jK,jL,jM,jN,jO,jP,jQ,jR,jS,jT,jU,jV,jW,jX,jY,jZ,j0,j1,j2,j3,j4,j5,j6,j7] M K=K #[g0,g1,g2,g3,g4,g5,g6,g7,.int .i64 0,g9,gA,gB,gC,gD,gE,gF,gG,gH,gI,gJ,gK,gL,gM,gN,gO,gP,gQ,gR,gS,gT,gU,gV,gW,gX,gY,gZ,hA,hB,hC,hD,hE,hF,hG,hH,hI,hJ,hK,hL,hM,hN,hO,hP,hQ,hR,hS,hT,hU,hV,hW,hX,hY,hZ,h0,h1,h2,h3,h4,h5,h6,h7,h8,h9,jA,jB,jC,jD,jE,jF,jG,jH,jI,jJ,jK,jL,jM,jN,jO,jP,jQ,jR,jS,jT,jU,jV,jW,jX,jY,jZ,j0,j1,j2,j3,j4,j5,j6,j7] M:=by kernel_rfl
theorem k12_13:P12 [1,1,1]=.seq (P12 [1,1,1,0]) (P12 [1,1,1,1]):=by kernel_rfl
theorem k12_14:P12 [1,1,1,0]=.seq (P12 [1,1,1,0,0]) (P12 [1,1,1,0,1]):=by kernel_rfl
theorem k12_15:P12 [1,1,1,0,0]=.region 4 (O12 [1,1,1,0,0]) false:=by kernel_rfl
theorem r12_4 {M:Mem} {call:CallM} {K:Array Value→Mem→R} :
 opsK Try.prog (fun _=>call) (O12 [1,1,1,0,0]) (O12 [1,1,1,0,0]).toList 0 #[g0,g1,g2,g3,g4,g5,g6,g7,g8,g9,gA,gB,gC,gD,gE,gF,gG,gH,gI,gJ,gK,gL,gM,gN,gO,gP,gQ,gR,gS,gT,gU,gV,gW,gX,gY,gZ,hA,hB,hC,hD,hE,hF,hG,hH,hI,hJ,hK,hL,hM,hN,hO,hP,hQ,hR,hS,hT,hU,hV,hW,hX,hY,hZ,h0,h1,h2,h3,h4,h5,h6,h7,h8,h9,jA,jB,jC,jD,jE,jF,jG,jH,jI,jJ,jK,jL,jM,jN,jO,jP,jQ,jR,jS,jT,jU,jV,jW,jX,jY,jZ,j0,j1,j2,j3,j4,j5,j6,j7] M K=K #[g0,g1,g2,g3,g4,g5,g6,g7,g8,.int .i64 0,gA,gB,gC,gD,gE,gF,gG,gH,gI,gJ,gK,gL,gM,gN,gO,gP,gQ,gR,gS,gT,gU,gV,gW,gX,gY,gZ,hA,hB,hC,hD,hE,hF,hG,hH,hI,hJ,hK,hL,hM,hN,hO,hP,hQ,hR,hS,hT,hU,hV,hW,hX,hY,hZ,h0,h1,h2,h3,h4,h5,h6,h7,h8,h9,jA,jB,jC,jD,jE,jF,jG,jH,jI,jJ,jK,jL,jM,jN,jO,jP,jQ,jR,jS,jT,jU,jV,jW,jX,jY,jZ,j0,j1,j2,j3,j4,j5,j6,j7] M:=by kernel_rfl
theorem k12_16:P12 [1,1,1,0,1]=.block 0 (P12 [1,1,1,0,1,0]):=by kernel_rfl
theorem k12_17:P12 [1,1,1,0,1,0]=.loop (P12 [1,1,1,0,1,0,0]):=by kernel_rfl
theorem k12_18:P12 [1,1,1,0,1,0,0]=.seq (P12 [1,1,1,0,1,0,0,0]) (P12 [1,1,1,0,1,0,0,1]):=by kernel_rfl
theorem k12_19:P12 [1,1,1,0,1,0,0,0]=.seq (P12 [1,1,1,0,1,0,0,0,0]) (P12 [1,1,1,0,1,0,0,0,1]):=by kernel_rfl
theorem k12_20:P12 [1,1,1,0,1,0,0,0,0]=.region 5 (O12 [1,1,1,0,1,0,0,0,0]) false:=by kernel_rfl
theorem r12_5 {Y0:Option Addr} {l0 y0:Nat} {x9:Int} {M:Mem} {call:CallM} {K:Array Value→Mem→R} :
 opsK Try.prog (fun _=>call) (O12 [1,1,1,0,1,0,0,0,0]) (O12 [1,1,1,0,1,0,0,0,0]).toList 0 #[.slice Y0 l0 y0,g1,g2,g3,g4,g5,g6,g7,g8,.int .i64 x9,gA,gB,gC,gD,gE,gF,gG,gH,gI,gJ,gK,gL,gM,gN,gO,gP,gQ,gR,gS,gT,gU,gV,gW,gX,gY,gZ,hA,hB,hC,hD,hE,hF,hG,hH,hI,hJ,hK,hL,hM,hN,hO,hP,hQ,hR,hS,hT,hU,hV,hW,hX,hY,hZ,h0,h1,h2,h3,h4,h5,h6,h7,h8,h9,jA,jB,jC,jD,jE,jF,jG,jH,jI,jJ,jK,jL,jM,jN,jO,jP,jQ,jR,jS,jT,jU,jV,jW,jX,jY,jZ,j0,j1,j2,j3,j4,j5,j6,j7] M K=K #[.slice Y0 l0 y0,g1,g2,g3,g4,g5,g6,g7,g8,.int .i64 x9,gA,gB,gC,gD,gE,gF,gG,gH,.int .i64 x9,.slice Y0 l0 y0,.int .i64 ((l0:Int)),.bool (decide (x9<((l0:Int)))),gM,gN,gO,gP,gQ,gR,gS,gT,gU,gV,gW,gX,gY,gZ,hA,hB,hC,hD,hE,hF,hG,hH,hI,hJ,hK,hL,hM,hN,hO,hP,hQ,hR,hS,hT,hU,hV,hW,hX,hY,hZ,h0,h1,h2,h3,h4,h5,h6,h7,h8,h9,jA,jB,jC,jD,jE,jF,jG,jH,jI,jJ,jK,jL,jM,jN,jO,jP,jQ,jR,jS,jT,jU,jV,jW,jX,jY,jZ,j0,j1,j2,j3,j4,j5,j6,j7] M:=by kernel_rfl
theorem c12_21:P12 [1,1,1,0,1,0,0,0,1]=.cond (.tmp 21) (P12 [1,1,1,0,1,0,0,0,1,0]) (P12 [1,1,1,0,1,0,0,0,1,1]):=by kernel_rfl
theorem k12_22:P12 [1,1,1,0,1,0,0,0,1,0]=.skip:=by kernel_rfl
theorem k12_23:P12 [1,1,1,0,1,0,0,1]=.seq (P12 [1,1,1,0,1,0,0,1,0]) (P12 [1,1,1,0,1,0,0,1,1]):=by kernel_rfl
theorem k12_24:P12 [1,1,1,0,1,0,0,1,0]=.block 1 (P12 [1,1,1,0,1,0,0,1,0,0]):=by kernel_rfl
theorem k12_25:P12 [1,1,1,0,1,0,0,1,0,0]=.seq (P12 [1,1,1,0,1,0,0,1,0,0,0]) (P12 [1,1,1,0,1,0,0,1,0,0,1]):=by kernel_rfl
theorem k12_26:P12 [1,1,1,0,1,0,0,1,0,0,0]=.seq (P12 [1,1,1,0,1,0,0,1,0,0,0,0]) (P12 [1,1,1,0,1,0,0,1,0,0,0,1]):=by kernel_rfl
theorem k12_27:P12 [1,1,1,0,1,0,0,1,0,0,0,0]=.region 7 (O12 [1,1,1,0,1,0,0,1,0,0,0,0]) false:=by kernel_rfl
theorem r12_7 {Y0:Option Addr} {l0 y0:Nat} {x9:Int} {M:Mem} {call:CallM} {K:Array Value→Mem→R} :
 opsK Try.prog (fun _=>call) (O12 [1,1,1,0,1,0,0,1,0,0,0,0]) (O12 [1,1,1,0,1,0,0,1,0,0,0,0]).toList 0 #[.slice Y0 l0 y0,g1,g2,g3,g4,g5,g6,g7,g8,.int .i64 x9,gA,gB,gC,gD,gE,gF,gG,gH,gI,gJ,gK,gL,gM,gN,gO,gP,gQ,gR,gS,gT,gU,gV,gW,gX,gY,gZ,hA,hB,hC,hD,hE,hF,hG,hH,hI,hJ,hK,hL,hM,hN,hO,hP,hQ,hR,hS,hT,hU,hV,hW,hX,hY,hZ,h0,h1,h2,h3,h4,h5,h6,h7,h8,h9,jA,jB,jC,jD,jE,jF,jG,jH,jI,jJ,jK,jL,jM,jN,jO,jP,jQ,jR,jS,jT,jU,jV,jW,jX,jY,jZ,j0,j1,j2,j3,j4,j5,j6,j7] M K=(idxA Y0 l0 1 x9).bind fun a_1=>(M.intAt .i64 a_1.block a_1.off).bind fun x_2=>K #[.slice Y0 l0 y0,g1,g2,g3,g4,g5,g6,g7,g8,.int .i64 x9,gA,gB,gC,gD,gE,gF,gG,gH,gI,gJ,gK,gL,gM,gN,.slice Y0 l0 y0,.int .i64 x9,.pointer (some a_1),.int .i64 x_2,.bool (decide (x_2<0)),gT,gU,gV,gW,gX,gY,gZ,hA,hB,hC,hD,hE,hF,hG,hH,hI,hJ,hK,hL,hM,hN,hO,hP,hQ,hR,hS,hT,hU,hV,hW,hX,hY,hZ,h0,h1,h2,h3,h4,h5,h6,h7,h8,h9,jA,jB,jC,jD,jE,jF,jG,jH,jI,jJ,jK,jL,jM,jN,jO,jP,jQ,jR,jS,jT,jU,jV,jW,jX,jY,jZ,j0,j1,j2,j3,j4,j5,j6,j7] M:=by kernel_rfl
theorem c12_28:P12 [1,1,1,0,1,0,0,1,0,0,0,1]=.cond (.tmp 28) (P12 [1,1,1,0,1,0,0,1,0,0,0,1,0]) (P12 [1,1,1,0,1,0,0,1,0,0,0,1,1]):=by kernel_rfl
theorem k12_29:P12 [1,1,1,0,1,0,0,1,0,0,0,1,0]=.seq (P12 [1,1,1,0,1,0,0,1,0,0,0,1,0,0]) (P12 [1,1,1,0,1,0,0,1,0,0,0,1,0,1]):=by kernel_rfl
theorem k12_30:P12 [1,1,1,0,1,0,0,1,0,0,0,1,0,0]=.region 8 (O12 [1,1,1,0,1,0,0,1,0,0,0,1,0,0]) false:=by kernel_rfl
theorem r12_8 {M:Mem} {call:CallM} {K:Array Value→Mem→R} :
 opsK Try.prog (fun _=>call) (O12 [1,1,1,0,1,0,0,1,0,0,0,1,0,0]) (O12 [1,1,1,0,1,0,0,1,0,0,0,1,0,0]).toList 0 #[g0,g1,g2,g3,g4,g5,g6,g7,g8,g9,gA,gB,gC,gD,gE,gF,gG,gH,gI,gJ,gK,gL,gM,gN,gO,gP,gQ,gR,gS,gT,gU,gV,gW,gX,gY,gZ,hA,hB,hC,hD,hE,hF,hG,hH,hI,hJ,hK,hL,hM,hN,hO,hP,hQ,hR,hS,hT,hU,hV,hW,hX,hY,hZ,h0,h1,h2,h3,h4,h5,h6,h7,h8,h9,jA,jB,jC,jD,jE,jF,jG,jH,jI,jJ,jK,jL,jM,jN,jO,jP,jQ,jR,jS,jT,jU,jV,jW,jX,jY,jZ,j0,j1,j2,j3,j4,j5,j6,j7] M K=K #[g0,g1,g2,g3,g4,g5,.slice none 0 0,.int .i64 2,g8,g9,gA,gB,gC,gD,gE,gF,gG,gH,gI,gJ,gK,gL,gM,gN,gO,gP,gQ,gR,gS,gT,gU,gV,gW,gX,gY,gZ,hA,hB,hC,hD,hE,hF,hG,hH,hI,hJ,hK,hL,hM,hN,hO,hP,hQ,hR,hS,hT,hU,hV,hW,hX,hY,hZ,h0,h1,h2,h3,h4,h5,h6,h7,h8,h9,jA,jB,jC,jD,jE,jF,jG,jH,jI,jJ,jK,jL,jM,jN,jO,jP,jQ,jR,jS,jT,jU,jV,jW,jX,jY,jZ,j0,j1,j2,j3,j4,j5,j6,j7] M:=by kernel_rfl
theorem k12_31:P12 [1,1,1,0,1,0,0,1,0,0,0,1,0,1]=.ret:=by kernel_rfl
theorem k12_32:P12 [1,1,1,0,1,0,0,1,0,0,0,1,1]=.skip:=by kernel_rfl
theorem k12_33:P12 [1,1,1,0,1,0,0,1,0,0,1]=.region 9 (O12 [1,1,1,0,1,0,0,1,0,0,1]) false:=by kernel_rfl
theorem r12_9 {Y0:Option Addr} {l0 y0:Nat} {x8 x9:Int} {M:Mem} {call:CallM} {K:Array Value→Mem→R} :
 opsK Try.prog (fun _=>call) (O12 [1,1,1,0,1,0,0,1,0,0,1]) (O12 [1,1,1,0,1,0,0,1,0,0,1]).toList 0 #[.slice Y0 l0 y0,g1,g2,g3,g4,g5,g6,g7,.int .i64 x8,.int .i64 x9,gA,gB,gC,gD,gE,gF,gG,gH,gI,gJ,gK,gL,gM,gN,gO,gP,gQ,gR,gS,gT,gU,gV,gW,gX,gY,gZ,hA,hB,hC,hD,hE,hF,hG,hH,hI,hJ,hK,hL,hM,hN,hO,hP,hQ,hR,hS,hT,hU,hV,hW,hX,hY,hZ,h0,h1,h2,h3,h4,h5,h6,h7,h8,h9,jA,jB,jC,jD,jE,jF,jG,jH,jI,jJ,jK,jL,jM,jN,jO,jP,jQ,jR,jS,jT,jU,jV,jW,jX,jY,jZ,j0,j1,j2,j3,j4,j5,j6,j7] M K=(idxA Y0 l0 1 x9).bind fun a_1=>(M.intAt .i64 a_1.block a_1.off).bind fun x_2=>K #[.slice Y0 l0 y0,g1,g2,g3,g4,g5,g6,g7,.int .i64 (IntKind.i64.wrap (x8+(if 1048576<x_2 then 1048576 else x_2))),.int .i64 x9,gA,gB,gC,gD,gE,gF,gG,gH,gI,gJ,gK,gL,gM,gN,gO,gP,gQ,gR,gS,.int .i64 x8,.slice Y0 l0 y0,.int .i64 x9,.pointer (some a_1),.int .i64 x_2,.int .i64 (if 1048576<x_2 then 1048576 else x_2),.int .i64 (IntKind.i64.wrap (x8+(if 1048576<x_2 then 1048576 else x_2))),hA,hB,hC,hD,hE,hF,hG,hH,hI,hJ,hK,hL,hM,hN,hO,hP,hQ,hR,hS,hT,hU,hV,hW,hX,hY,hZ,h0,h1,h2,h3,h4,h5,h6,h7,h8,h9,jA,jB,jC,jD,jE,jF,jG,jH,jI,jJ,jK,jL,jM,jN,jO,jP,jQ,jR,jS,jT,jU,jV,jW,jX,jY,jZ,j0,j1,j2,j3,j4,j5,j6,j7] M:=by kernel_rfl
theorem k12_34:P12 [1,1,1,0,1,0,0,1,1]=.region 6 (O12 [1,1,1,0,1,0,0,1,1]) false:=by kernel_rfl
theorem r12_6 {x9:Int} {M:Mem} {call:CallM} {K:Array Value→Mem→R} :
 opsK Try.prog (fun _=>call) (O12 [1,1,1,0,1,0,0,1,1]) (O12 [1,1,1,0,1,0,0,1,1]).toList 0 #[g0,g1,g2,g3,g4,g5,g6,g7,g8,.int .i64 x9,gA,gB,gC,gD,gE,gF,gG,gH,gI,gJ,gK,gL,gM,gN,gO,gP,gQ,gR,gS,gT,gU,gV,gW,gX,gY,gZ,hA,hB,hC,hD,hE,hF,hG,hH,hI,hJ,hK,hL,hM,hN,hO,hP,hQ,hR,hS,hT,hU,hV,hW,hX,hY,hZ,h0,h1,h2,h3,h4,h5,h6,h7,h8,h9,jA,jB,jC,jD,jE,jF,jG,jH,jI,jJ,jK,jL,jM,jN,jO,jP,jQ,jR,jS,jT,jU,jV,jW,jX,jY,jZ,j0,j1,j2,j3,j4,j5,j6,j7] M K=K #[g0,g1,g2,g3,g4,g5,g6,g7,g8,.int .i64 (IntKind.i64.wrap (x9+1)),gA,gB,gC,gD,gE,gF,gG,gH,gI,gJ,gK,gL,.int .i64 x9,.int .i64 (IntKind.i64.wrap (x9+1)),gO,gP,gQ,gR,gS,gT,gU,gV,gW,gX,gY,gZ,hA,hB,hC,hD,hE,hF,hG,hH,hI,hJ,hK,hL,hM,hN,hO,hP,hQ,hR,hS,hT,hU,hV,hW,hX,hY,hZ,h0,h1,h2,h3,h4,h5,h6,h7,h8,h9,jA,jB,jC,jD,jE,jF,jG,jH,jI,jJ,jK,jL,jM,jN,jO,jP,jQ,jR,jS,jT,jU,jV,jW,jX,jY,jZ,j0,j1,j2,j3,j4,j5,j6,j7] M:=by kernel_rfl
theorem k12_35:P12 [1,1,1,0,1,0,0,0,1,1]=.exit 0:=by kernel_rfl
theorem k12_36:P12 [1,1,1,1]=.seq (P12 [1,1,1,1,0]) (P12 [1,1,1,1,1]):=by kernel_rfl
theorem k12_37:P12 [1,1,1,1,0]=.seq (P12 [1,1,1,1,0,0]) (P12 [1,1,1,1,0,1]):=by kernel_rfl
theorem k12_38:P12 [1,1,1,1,0,0]=.region 10 (O12 [1,1,1,1,0,0]) false:=by kernel_rfl
theorem r12_10 {x8:Int} {M:Mem} {call:CallM} {K:Array Value→Mem→R} :
 opsK Try.prog (fun _=>call) (O12 [1,1,1,1,0,0]) (O12 [1,1,1,1,0,0]).toList 0 #[g0,g1,g2,g3,g4,g5,g6,g7,.int .i64 x8,g9,gA,gB,gC,gD,gE,gF,gG,gH,gI,gJ,gK,gL,gM,gN,gO,gP,gQ,gR,gS,gT,gU,gV,gW,gX,gY,gZ,hA,hB,hC,hD,hE,hF,hG,hH,hI,hJ,hK,hL,hM,hN,hO,hP,hQ,hR,hS,hT,hU,hV,hW,hX,hY,hZ,h0,h1,h2,h3,h4,h5,h6,h7,h8,h9,jA,jB,jC,jD,jE,jF,jG,jH,jI,jJ,jK,jL,jM,jN,jO,jP,jQ,jR,jS,jT,jU,jV,jW,jX,jY,jZ,j0,j1,j2,j3,j4,j5,j6,j7] M K=K #[g0,g1,g2,g3,g4,g5,g6,g7,.int .i64 x8,g9,gA,gB,gC,gD,gE,gF,gG,gH,gI,gJ,gK,gL,gM,gN,gO,gP,gQ,gR,gS,gT,gU,gV,gW,gX,gY,gZ,.int .i64 x8,.bool (decide (x8>65536)),hC,hD,hE,hF,hG,hH,hI,hJ,hK,hL,hM,hN,hO,hP,hQ,hR,hS,hT,hU,hV,hW,hX,hY,hZ,h0,h1,h2,h3,h4,h5,h6,h7,h8,h9,jA,jB,jC,jD,jE,jF,jG,jH,jI,jJ,jK,jL,jM,jN,jO,jP,jQ,jR,jS,jT,jU,jV,jW,jX,jY,jZ,j0,j1,j2,j3,j4,j5,j6,j7] M:=by kernel_rfl
theorem c12_39:P12 [1,1,1,1,0,1]=.cond (.tmp 37) (P12 [1,1,1,1,0,1,0]) (P12 [1,1,1,1,0,1,1]):=by kernel_rfl
theorem k12_40:P12 [1,1,1,1,0,1,0]=.seq (P12 [1,1,1,1,0,1,0,0]) (P12 [1,1,1,1,0,1,0,1]):=by kernel_rfl
theorem k12_41:P12 [1,1,1,1,0,1,0,0]=.region 11 (O12 [1,1,1,1,0,1,0,0]) false:=by kernel_rfl
theorem r12_11 {M:Mem} {call:CallM} {K:Array Value→Mem→R} :
 opsK Try.prog (fun _=>call) (O12 [1,1,1,1,0,1,0,0]) (O12 [1,1,1,1,0,1,0,0]).toList 0 #[g0,g1,g2,g3,g4,g5,g6,g7,g8,g9,gA,gB,gC,gD,gE,gF,gG,gH,gI,gJ,gK,gL,gM,gN,gO,gP,gQ,gR,gS,gT,gU,gV,gW,gX,gY,gZ,hA,hB,hC,hD,hE,hF,hG,hH,hI,hJ,hK,hL,hM,hN,hO,hP,hQ,hR,hS,hT,hU,hV,hW,hX,hY,hZ,h0,h1,h2,h3,h4,h5,h6,h7,h8,h9,jA,jB,jC,jD,jE,jF,jG,jH,jI,jJ,jK,jL,jM,jN,jO,jP,jQ,jR,jS,jT,jU,jV,jW,jX,jY,jZ,j0,j1,j2,j3,j4,j5,j6,j7] M K=K #[g0,g1,g2,g3,g4,g5,.slice none 0 0,.int .i64 7,g8,g9,gA,gB,gC,gD,gE,gF,gG,gH,gI,gJ,gK,gL,gM,gN,gO,gP,gQ,gR,gS,gT,gU,gV,gW,gX,gY,gZ,hA,hB,hC,hD,hE,hF,hG,hH,hI,hJ,hK,hL,hM,hN,hO,hP,hQ,hR,hS,hT,hU,hV,hW,hX,hY,hZ,h0,h1,h2,h3,h4,h5,h6,h7,h8,h9,jA,jB,jC,jD,jE,jF,jG,jH,jI,jJ,jK,jL,jM,jN,jO,jP,jQ,jR,jS,jT,jU,jV,jW,jX,jY,jZ,j0,j1,j2,j3,j4,j5,j6,j7] M:=by kernel_rfl
theorem k12_42:P12 [1,1,1,1,0,1,0,1]=.ret:=by kernel_rfl
theorem k12_43:P12 [1,1,1,1,0,1,1]=.skip:=by kernel_rfl
theorem k12_44:P12 [1,1,1,1,1]=.seq (P12 [1,1,1,1,1,0]) (P12 [1,1,1,1,1,1]):=by kernel_rfl
theorem k12_45:P12 [1,1,1,1,1,0]=.seq (P12 [1,1,1,1,1,0,0]) (P12 [1,1,1,1,1,0,1]):=by kernel_rfl
theorem k12_46:P12 [1,1,1,1,1,0,0]=.region 12 (O12 [1,1,1,1,1,0,0]) false:=by kernel_rfl
theorem r12_12 {x1:Int} {M:Mem} {call:CallM} {K:Array Value→Mem→R} :
 opsK Try.prog (fun _=>call) (O12 [1,1,1,1,1,0,0]) (O12 [1,1,1,1,1,0,0]).toList 0 #[g0,.int .i64 x1,g2,g3,g4,g5,g6,g7,g8,g9,gA,gB,gC,gD,gE,gF,gG,gH,gI,gJ,gK,gL,gM,gN,gO,gP,gQ,gR,gS,gT,gU,gV,gW,gX,gY,gZ,hA,hB,hC,hD,hE,hF,hG,hH,hI,hJ,hK,hL,hM,hN,hO,hP,hQ,hR,hS,hT,hU,hV,hW,hX,hY,hZ,h0,h1,h2,h3,h4,h5,h6,h7,h8,h9,jA,jB,jC,jD,jE,jF,jG,jH,jI,jJ,jK,jL,jM,jN,jO,jP,jQ,jR,jS,jT,jU,jV,jW,jX,jY,jZ,j0,j1,j2,j3,j4,j5,j6,j7] M K=withK (fun w40 w41 w42 w43 M=>K #[g0,.int .i64 x1,g2,g3,g4,g5,g6,g7,g8,g9,gA,gB,gC,gD,gE,gF,gG,gH,gI,gJ,gK,gL,gM,gN,gO,gP,gQ,gR,gS,gT,gU,gV,gW,gX,gY,gZ,hA,hB,.int .i64 x1,.bool (decide (x1<1)),w40,w41,w42,w43,hI,hJ,hK,hL,hM,hN,hO,hP,hQ,hR,hS,hT,hU,hV,hW,hX,hY,hZ,h0,h1,h2,h3,h4,h5,h6,h7,h8,h9,jA,jB,jC,jD,jE,jF,jG,jH,jI,jJ,jK,jL,jM,jN,jO,jP,jQ,jR,jS,jT,jU,jV,jW,jX,jY,jZ,j0,j1,j2,j3,j4,j5,j6,j7] M) fun k=>cond (decide (x1<1)) (k (.bool true) undef undef (.bool true) M) (k (.bool false) (.int .i64 x1) (.bool (decide (x1>64))) (.bool (decide (x1>64))) M):=by kernel_rfl
theorem c12_47:P12 [1,1,1,1,1,0,1]=.cond (.tmp 43) (P12 [1,1,1,1,1,0,1,0]) (P12 [1,1,1,1,1,0,1,1]):=by kernel_rfl
theorem k12_48:P12 [1,1,1,1,1,0,1,0]=.seq (P12 [1,1,1,1,1,0,1,0,0]) (P12 [1,1,1,1,1,0,1,0,1]):=by kernel_rfl
theorem k12_49:P12 [1,1,1,1,1,0,1,0,0]=.region 13 (O12 [1,1,1,1,1,0,1,0,0]) false:=by kernel_rfl
theorem r12_13 {M:Mem} {call:CallM} {K:Array Value→Mem→R} :
 opsK Try.prog (fun _=>call) (O12 [1,1,1,1,1,0,1,0,0]) (O12 [1,1,1,1,1,0,1,0,0]).toList 0 #[g0,g1,g2,g3,g4,g5,g6,g7,g8,g9,gA,gB,gC,gD,gE,gF,gG,gH,gI,gJ,gK,gL,gM,gN,gO,gP,gQ,gR,gS,gT,gU,gV,gW,gX,gY,gZ,hA,hB,hC,hD,hE,hF,hG,hH,hI,hJ,hK,hL,hM,hN,hO,hP,hQ,hR,hS,hT,hU,hV,hW,hX,hY,hZ,h0,h1,h2,h3,h4,h5,h6,h7,h8,h9,jA,jB,jC,jD,jE,jF,jG,jH,jI,jJ,jK,jL,jM,jN,jO,jP,jQ,jR,jS,jT,jU,jV,jW,jX,jY,jZ,j0,j1,j2,j3,j4,j5,j6,j7] M K=K #[g0,g1,g2,g3,g4,g5,.slice none 0 0,.int .i64 2,g8,g9,gA,gB,gC,gD,gE,gF,gG,gH,gI,gJ,gK,gL,gM,gN,gO,gP,gQ,gR,gS,gT,gU,gV,gW,gX,gY,gZ,hA,hB,hC,hD,hE,hF,hG,hH,hI,hJ,hK,hL,hM,hN,hO,hP,hQ,hR,hS,hT,hU,hV,hW,hX,hY,hZ,h0,h1,h2,h3,h4,h5,h6,h7,h8,h9,jA,jB,jC,jD,jE,jF,jG,jH,jI,jJ,jK,jL,jM,jN,jO,jP,jQ,jR,jS,jT,jU,jV,jW,jX,jY,jZ,j0,j1,j2,j3,j4,j5,j6,j7] M:=by kernel_rfl
theorem k12_50:P12 [1,1,1,1,1,0,1,0,1]=.ret:=by kernel_rfl
theorem k12_51:P12 [1,1,1,1,1,0,1,1]=.skip:=by kernel_rfl
theorem k12_52:P12 [1,1,1,1,1,1]=.seq (P12 [1,1,1,1,1,1,0]) (P12 [1,1,1,1,1,1,1]):=by kernel_rfl
theorem k12_53:P12 [1,1,1,1,1,1,0]=.region 14 (O12 [1,1,1,1,1,1,0]) false:=by kernel_rfl
theorem r12_14 {Y0:Option Addr} {l0 y0:Nat} {M:Mem} {call:CallM} {K:Array Value→Mem→R} :
 opsK Try.prog (fun _=>call) (O12 [1,1,1,1,1,1,0]) (O12 [1,1,1,1,1,1,0]).toList 0 #[.slice Y0 l0 y0,g1,g2,g3,g4,g5,g6,g7,g8,g9,gA,gB,gC,gD,gE,gF,gG,gH,gI,gJ,gK,gL,gM,gN,gO,gP,gQ,gR,gS,gT,gU,gV,gW,gX,gY,gZ,hA,hB,hC,hD,hE,hF,hG,hH,hI,hJ,hK,hL,hM,hN,hO,hP,hQ,hR,hS,hT,hU,hV,hW,hX,hY,hZ,h0,h1,h2,h3,h4,h5,h6,h7,h8,h9,jA,jB,jC,jD,jE,jF,jG,jH,jI,jJ,jK,jL,jM,jN,jO,jP,jQ,jR,jS,jT,jU,jV,jW,jX,jY,jZ,j0,j1,j2,j3,j4,j5,j6,j7] M K=(call 10 #[.slice Y0 l0 y0] M).bind fun r_1=>(asS r_1.1).bind fun s_2=>K #[.slice Y0 l0 y0,g1,g2,g3,g4,g5,g6,g7,g8,g9,.slice s_2.1 (s_2.2.1) (s_2.2.2),gB,gC,gD,gE,gF,gG,gH,gI,gJ,gK,gL,gM,gN,gO,gP,gQ,gR,gS,gT,gU,gV,gW,gX,gY,gZ,hA,hB,hC,hD,hE,hF,hG,hH,.slice Y0 l0 y0,.slice s_2.1 (s_2.2.1) (s_2.2.2),hK,hL,hM,hN,hO,hP,hQ,hR,hS,hT,hU,hV,hW,hX,hY,hZ,h0,h1,h2,h3,h4,h5,h6,h7,h8,h9,jA,jB,jC,jD,jE,jF,jG,jH,jI,jJ,jK,jL,jM,jN,jO,jP,jQ,jR,jS,jT,jU,jV,jW,jX,jY,jZ,j0,j1,j2,j3,j4,j5,j6,j7] r_1.2:=by kernel_rfl
theorem k12_54:P12 [1,1,1,1,1,1,1]=.seq (P12 [1,1,1,1,1,1,1,0]) (P12 [1,1,1,1,1,1,1,1]):=by kernel_rfl
theorem k12_55:P12 [1,1,1,1,1,1,1,0]=.region 15 (O12 [1,1,1,1,1,1,1,0]) false:=by kernel_rfl
theorem r12_15 {M:Mem} {call:CallM} {K:Array Value→Mem→R} :
 opsK Try.prog (fun _=>call) (O12 [1,1,1,1,1,1,1,0]) (O12 [1,1,1,1,1,1,1,0]).toList 0 #[g0,g1,g2,g3,g4,g5,g6,g7,g8,g9,gA,gB,gC,gD,gE,gF,gG,gH,gI,gJ,gK,gL,gM,gN,gO,gP,gQ,gR,gS,gT,gU,gV,gW,gX,gY,gZ,hA,hB,hC,hD,hE,hF,hG,hH,hI,hJ,hK,hL,hM,hN,hO,hP,hQ,hR,hS,hT,hU,hV,hW,hX,hY,hZ,h0,h1,h2,h3,h4,h5,h6,h7,h8,h9,jA,jB,jC,jD,jE,jF,jG,jH,jI,jJ,jK,jL,jM,jN,jO,jP,jQ,jR,jS,jT,jU,jV,jW,jX,jY,jZ,j0,j1,j2,j3,j4,j5,j6,j7] M K=K #[g0,g1,g2,g3,g4,g5,g6,g7,g8,g9,gA,.slice none 0 0,gC,gD,gE,gF,gG,gH,gI,gJ,gK,gL,gM,gN,gO,gP,gQ,gR,gS,gT,gU,gV,gW,gX,gY,gZ,hA,hB,hC,hD,hE,hF,hG,hH,hI,hJ,hK,hL,hM,hN,hO,hP,hQ,hR,hS,hT,hU,hV,hW,hX,hY,hZ,h0,h1,h2,h3,h4,h5,h6,h7,h8,h9,jA,jB,jC,jD,jE,jF,jG,jH,jI,jJ,jK,jL,jM,jN,jO,jP,jQ,jR,jS,jT,jU,jV,jW,jX,jY,jZ,j0,j1,j2,j3,j4,j5,j6,j7] M:=by kernel_rfl
theorem k12_56:P12 [1,1,1,1,1,1,1,1]=.seq (P12 [1,1,1,1,1,1,1,1,0]) (P12 [1,1,1,1,1,1,1,1,1]):=by kernel_rfl
theorem k12_57:P12 [1,1,1,1,1,1,1,1,0]=.block 2 (P12 [1,1,1,1,1,1,1,1,0,0]):=by kernel_rfl
theorem k12_58:P12 [1,1,1,1,1,1,1,1,0,0]=.loop (P12 [1,1,1,1,1,1,1,1,0,0,0]):=by kernel_rfl
theorem k12_59:P12 [1,1,1,1,1,1,1,1,0,0,0]=.seq (P12 [1,1,1,1,1,1,1,1,0,0,0,0]) (P12 [1,1,1,1,1,1,1,1,0,0,0,1]):=by kernel_rfl
theorem k12_60:P12 [1,1,1,1,1,1,1,1,0,0,0,0]=.seq (P12 [1,1,1,1,1,1,1,1,0,0,0,0,0]) (P12 [1,1,1,1,1,1,1,1,0,0,0,0,1]):=by kernel_rfl
theorem k12_61:P12 [1,1,1,1,1,1,1,1,0,0,0,0,0]=.region 16 (O12 [1,1,1,1,1,1,1,1,0,0,0,0,0]) false:=by kernel_rfl
theorem r12_16 {x8:Int} {Y11:Option Addr} {l11 y11:Nat} {M:Mem} {call:CallM} {K:Array Value→Mem→R} :
 opsK Try.prog (fun _=>call) (O12 [1,1,1,1,1,1,1,1,0,0,0,0,0]) (O12 [1,1,1,1,1,1,1,1,0,0,0,0,0]).toList 0 #[g0,g1,g2,g3,g4,g5,g6,g7,.int .i64 x8,g9,gA,.slice Y11 l11 y11,gC,gD,gE,gF,gG,gH,gI,gJ,gK,gL,gM,gN,gO,gP,gQ,gR,gS,gT,gU,gV,gW,gX,gY,gZ,hA,hB,hC,hD,hE,hF,hG,hH,hI,hJ,hK,hL,hM,hN,hO,hP,hQ,hR,hS,hT,hU,hV,hW,hX,hY,hZ,h0,h1,h2,h3,h4,h5,h6,h7,h8,h9,jA,jB,jC,jD,jE,jF,jG,jH,jI,jJ,jK,jL,jM,jN,jO,jP,jQ,jR,jS,jT,jU,jV,jW,jX,jY,jZ,j0,j1,j2,j3,j4,j5,j6,j7] M K=K #[g0,g1,g2,g3,g4,g5,g6,g7,.int .i64 x8,g9,gA,.slice Y11 l11 y11,gC,gD,gE,gF,gG,gH,gI,gJ,gK,gL,gM,gN,gO,gP,gQ,gR,gS,gT,gU,gV,gW,gX,gY,gZ,hA,hB,hC,hD,hE,hF,hG,hH,hI,hJ,.slice Y11 l11 y11,.int .i64 ((l11:Int)),.int .i64 x8,.bool (decide (((l11:Int))<x8)),hO,hP,hQ,hR,hS,hT,hU,hV,hW,hX,hY,hZ,h0,h1,h2,h3,h4,h5,h6,h7,h8,h9,jA,jB,jC,jD,jE,jF,jG,jH,jI,jJ,jK,jL,jM,jN,jO,jP,jQ,jR,jS,jT,jU,jV,jW,jX,jY,jZ,j0,j1,j2,j3,j4,j5,j6,j7] M:=by kernel_rfl
theorem c12_62:P12 [1,1,1,1,1,1,1,1,0,0,0,0,1]=.cond (.tmp 49) (P12 [1,1,1,1,1,1,1,1,0,0,0,0,1,0]) (P12 [1,1,1,1,1,1,1,1,0,0,0,0,1,1]):=by kernel_rfl
theorem k12_63:P12 [1,1,1,1,1,1,1,1,0,0,0,0,1,0]=.skip:=by kernel_rfl
theorem k12_64:P12 [1,1,1,1,1,1,1,1,0,0,0,1]=.block 3 (P12 [1,1,1,1,1,1,1,1,0,0,0,1,0]):=by kernel_rfl
theorem k12_65:P12 [1,1,1,1,1,1,1,1,0,0,0,1,0]=.seq (P12 [1,1,1,1,1,1,1,1,0,0,0,1,0,0]) (P12 [1,1,1,1,1,1,1,1,0,0,0,1,0,1]):=by kernel_rfl
theorem k12_66:P12 [1,1,1,1,1,1,1,1,0,0,0,1,0,0]=.region 17 (O12 [1,1,1,1,1,1,1,1,0,0,0,1,0,0]) false:=by kernel_rfl
theorem r12_17 {M:Mem} {call:CallM} {K:Array Value→Mem→R} :
 opsK Try.prog (fun _=>call) (O12 [1,1,1,1,1,1,1,1,0,0,0,1,0,0]) (O12 [1,1,1,1,1,1,1,1,0,0,0,1,0,0]).toList 0 #[g0,g1,g2,g3,g4,g5,g6,g7,g8,g9,gA,gB,gC,gD,gE,gF,gG,gH,gI,gJ,gK,gL,gM,gN,gO,gP,gQ,gR,gS,gT,gU,gV,gW,gX,gY,gZ,hA,hB,hC,hD,hE,hF,hG,hH,hI,hJ,hK,hL,hM,hN,hO,hP,hQ,hR,hS,hT,hU,hV,hW,hX,hY,hZ,h0,h1,h2,h3,h4,h5,h6,h7,h8,h9,jA,jB,jC,jD,jE,jF,jG,jH,jI,jJ,jK,jL,jM,jN,jO,jP,jQ,jR,jS,jT,jU,jV,jW,jX,jY,jZ,j0,j1,j2,j3,j4,j5,j6,j7] M K=K #[g0,g1,g2,g3,g4,g5,g6,g7,g8,g9,gA,gB,.slice none 0 0,gD,gE,gF,gG,gH,gI,gJ,gK,gL,gM,gN,gO,gP,gQ,gR,gS,gT,gU,gV,gW,gX,gY,gZ,hA,hB,hC,hD,hE,hF,hG,hH,hI,hJ,hK,hL,hM,hN,hO,hP,hQ,hR,hS,hT,hU,hV,hW,hX,hY,hZ,h0,h1,h2,h3,h4,h5,h6,h7,h8,h9,jA,jB,jC,jD,jE,jF,jG,jH,jI,jJ,jK,jL,jM,jN,jO,jP,jQ,jR,jS,jT,jU,jV,jW,jX,jY,jZ,j0,j1,j2,j3,j4,j5,j6,j7] M:=by kernel_rfl
theorem k12_67:P12 [1,1,1,1,1,1,1,1,0,0,0,1,0,1]=.seq (P12 [1,1,1,1,1,1,1,1,0,0,0,1,0,1,0]) (P12 [1,1,1,1,1,1,1,1,0,0,0,1,0,1,1]):=by kernel_rfl
theorem k12_68:P12 [1,1,1,1,1,1,1,1,0,0,0,1,0,1,0]=.seq (P12 [1,1,1,1,1,1,1,1,0,0,0,1,0,1,0,0]) (P12 [1,1,1,1,1,1,1,1,0,0,0,1,0,1,0,1]):=by kernel_rfl
theorem k12_69:P12 [1,1,1,1,1,1,1,1,0,0,0,1,0,1,0,0]=.region 18 (O12 [1,1,1,1,1,1,1,1,0,0,0,1,0,1,0,0]) false:=by kernel_rfl
theorem r12_18 {M:Mem} {call:CallM} {K:Array Value→Mem→R} :
 opsK Try.prog (fun _=>call) (O12 [1,1,1,1,1,1,1,1,0,0,0,1,0,1,0,0]) (O12 [1,1,1,1,1,1,1,1,0,0,0,1,0,1,0,0]).toList 0 #[g0,g1,g2,g3,g4,g5,g6,g7,g8,g9,gA,gB,gC,gD,gE,gF,gG,gH,gI,gJ,gK,gL,gM,gN,gO,gP,gQ,gR,gS,gT,gU,gV,gW,gX,gY,gZ,hA,hB,hC,hD,hE,hF,hG,hH,hI,hJ,hK,hL,hM,hN,hO,hP,hQ,hR,hS,hT,hU,hV,hW,hX,hY,hZ,h0,h1,h2,h3,h4,h5,h6,h7,h8,h9,jA,jB,jC,jD,jE,jF,jG,jH,jI,jJ,jK,jL,jM,jN,jO,jP,jQ,jR,jS,jT,jU,jV,jW,jX,jY,jZ,j0,j1,j2,j3,j4,j5,j6,j7] M K=K #[g0,g1,g2,g3,g4,g5,g6,g7,g8,g9,gA,gB,gC,.int .i64 0,gE,gF,gG,gH,gI,gJ,gK,gL,gM,gN,gO,gP,gQ,gR,gS,gT,gU,gV,gW,gX,gY,gZ,hA,hB,hC,hD,hE,hF,hG,hH,hI,hJ,hK,hL,hM,hN,hO,hP,hQ,hR,hS,hT,hU,hV,hW,hX,hY,hZ,h0,h1,h2,h3,h4,h5,h6,h7,h8,h9,jA,jB,jC,jD,jE,jF,jG,jH,jI,jJ,jK,jL,jM,jN,jO,jP,jQ,jR,jS,jT,jU,jV,jW,jX,jY,jZ,j0,j1,j2,j3,j4,j5,j6,j7] M:=by kernel_rfl
theorem k12_70:P12 [1,1,1,1,1,1,1,1,0,0,0,1,0,1,0,1]=.block 4 (P12 [1,1,1,1,1,1,1,1,0,0,0,1,0,1,0,1,0]):=by kernel_rfl
theorem k12_71:P12 [1,1,1,1,1,1,1,1,0,0,0,1,0,1,0,1,0]=.loop (P12 [1,1,1,1,1,1,1,1,0,0,0,1,0,1,0,1,0,0]):=by kernel_rfl
theorem k12_72:P12 [1,1,1,1,1,1,1,1,0,0,0,0,1,1]=.exit 2:=by kernel_rfl
theorem k12_73:P12 [1,1,1,1,1,1,1,1,1]=.seq (P12 [1,1,1,1,1,1,1,1,1,0]) (P12 [1,1,1,1,1,1,1,1,1,1]):=by kernel_rfl
theorem k12_74:P12 [1,1,1,1,1,1,1,1,1,0]=.region 28 (O12 [1,1,1,1,1,1,1,1,1,0]) false:=by kernel_rfl
theorem r12_28 {Y11:Option Addr} {l11 y11:Nat} {M:Mem} {call:CallM} {K:Array Value→Mem→R} :
 opsK Try.prog (fun _=>call) (O12 [1,1,1,1,1,1,1,1,1,0]) (O12 [1,1,1,1,1,1,1,1,1,0]).toList 0 #[g0,g1,g2,g3,g4,g5,g6,g7,g8,g9,gA,.slice Y11 l11 y11,gC,gD,gE,gF,gG,gH,gI,gJ,gK,gL,gM,gN,gO,gP,gQ,gR,gS,gT,gU,gV,gW,gX,gY,gZ,hA,hB,hC,hD,hE,hF,hG,hH,hI,hJ,hK,hL,hM,hN,hO,hP,hQ,hR,hS,hT,hU,hV,hW,hX,hY,hZ,h0,h1,h2,h3,h4,h5,h6,h7,h8,h9,jA,jB,jC,jD,jE,jF,jG,jH,jI,jJ,jK,jL,jM,jN,jO,jP,jQ,jR,jS,jT,jU,jV,jW,jX,jY,jZ,j0,j1,j2,j3,j4,j5,j6,j7] M K=K #[g0,g1,g2,g3,g4,g5,.slice Y11 l11 y11,.int .i64 0,g8,g9,gA,.slice Y11 l11 y11,gC,gD,gE,gF,gG,gH,gI,gJ,gK,gL,gM,gN,gO,gP,gQ,gR,gS,gT,gU,gV,gW,gX,gY,gZ,hA,hB,hC,hD,hE,hF,hG,hH,hI,hJ,hK,hL,hM,hN,hO,hP,hQ,hR,hS,hT,hU,hV,hW,hX,hY,hZ,h0,h1,h2,h3,h4,h5,h6,h7,h8,h9,jA,jB,jC,jD,jE,jF,jG,jH,jI,jJ,jK,jL,jM,jN,jO,jP,jQ,jR,jS,jT,jU,jV,jW,jX,jY,jZ,j0,j1,j2,j3,j4,j5,j6,.slice Y11 l11 y11] M:=by kernel_rfl
theorem k12_75:P12 [1,1,1,1,1,1,1,1,1,1]=.ret:=by kernel_rfl
theorem k12_76:P12 [1,1,1,1,1,1,1,1,0,0,0,1,0,1,0,1,0,0]=.seq (P12 [1,1,1,1,1,1,1,1,0,0,0,1,0,1,0,1,0,0,0]) (P12 [1,1,1,1,1,1,1,1,0,0,0,1,0,1,0,1,0,0,1]):=by kernel_rfl
theorem k12_77:P12 [1,1,1,1,1,1,1,1,0,0,0,1,0,1,0,1,0,0,0]=.seq (P12 [1,1,1,1,1,1,1,1,0,0,0,1,0,1,0,1,0,0,0,0]) (P12 [1,1,1,1,1,1,1,1,0,0,0,1,0,1,0,1,0,0,0,1]):=by kernel_rfl
theorem k12_78:P12 [1,1,1,1,1,1,1,1,0,0,0,1,0,1,0,1,0,0,0,0]=.region 19 (O12 [1,1,1,1,1,1,1,1,0,0,0,1,0,1,0,1,0,0,0,0]) false:=by kernel_rfl
theorem r12_19 {Y10:Option Addr} {l10 y10:Nat} {x13:Int} {M:Mem} {call:CallM} {K:Array Value→Mem→R} :
 opsK Try.prog (fun _=>call) (O12 [1,1,1,1,1,1,1,1,0,0,0,1,0,1,0,1,0,0,0,0]) (O12 [1,1,1,1,1,1,1,1,0,0,0,1,0,1,0,1,0,0,0,0]).toList 0 #[g0,g1,g2,g3,g4,g5,g6,g7,g8,g9,.slice Y10 l10 y10,gB,gC,.int .i64 x13,gE,gF,gG,gH,gI,gJ,gK,gL,gM,gN,gO,gP,gQ,gR,gS,gT,gU,gV,gW,gX,gY,gZ,hA,hB,hC,hD,hE,hF,hG,hH,hI,hJ,hK,hL,hM,hN,hO,hP,hQ,hR,hS,hT,hU,hV,hW,hX,hY,hZ,h0,h1,h2,h3,h4,h5,h6,h7,h8,h9,jA,jB,jC,jD,jE,jF,jG,jH,jI,jJ,jK,jL,jM,jN,jO,jP,jQ,jR,jS,jT,jU,jV,jW,jX,jY,jZ,j0,j1,j2,j3,j4,j5,j6,j7] M K=K #[g0,g1,g2,g3,g4,g5,g6,g7,g8,g9,.slice Y10 l10 y10,gB,gC,.int .i64 x13,gE,gF,gG,gH,gI,gJ,gK,gL,gM,gN,gO,gP,gQ,gR,gS,gT,gU,gV,gW,gX,gY,gZ,hA,hB,hC,hD,hE,hF,hG,hH,hI,hJ,hK,hL,hM,hN,.int .i64 x13,.slice Y10 l10 y10,.int .i64 ((l10:Int)),.bool (decide (x13<((l10:Int)))),hS,hT,hU,hV,hW,hX,hY,hZ,h0,h1,h2,h3,h4,h5,h6,h7,h8,h9,jA,jB,jC,jD,jE,jF,jG,jH,jI,jJ,jK,jL,jM,jN,jO,jP,jQ,jR,jS,jT,jU,jV,jW,jX,jY,jZ,j0,j1,j2,j3,j4,j5,j6,j7] M:=by kernel_rfl
theorem c12_79:P12 [1,1,1,1,1,1,1,1,0,0,0,1,0,1,0,1,0,0,0,1]=.cond (.tmp 53) (P12 [1,1,1,1,1,1,1,1,0,0,0,1,0,1,0,1,0,0,0,1,0]) (P12 [1,1,1,1,1,1,1,1,0,0,0,1,0,1,0,1,0,0,0,1,1]):=by kernel_rfl
theorem k12_80:P12 [1,1,1,1,1,1,1,1,0,0,0,1,0,1,0,1,0,0,0,1,0]=.skip:=by kernel_rfl
theorem k12_81:P12 [1,1,1,1,1,1,1,1,0,0,0,1,0,1,0,1,0,0,1]=.seq (P12 [1,1,1,1,1,1,1,1,0,0,0,1,0,1,0,1,0,0,1,0]) (P12 [1,1,1,1,1,1,1,1,0,0,0,1,0,1,0,1,0,0,1,1]):=by kernel_rfl
theorem k12_82:P12 [1,1,1,1,1,1,1,1,0,0,0,1,0,1,0,1,0,0,1,0]=.block 5 (P12 [1,1,1,1,1,1,1,1,0,0,0,1,0,1,0,1,0,0,1,0,0]):=by kernel_rfl
theorem k12_83:P12 [1,1,1,1,1,1,1,1,0,0,0,1,0,1,0,1,0,0,1,0,0]=.seq (P12 [1,1,1,1,1,1,1,1,0,0,0,1,0,1,0,1,0,0,1,0,0,0]) (P12 [1,1,1,1,1,1,1,1,0,0,0,1,0,1,0,1,0,0,1,0,0,1]):=by kernel_rfl
theorem k12_84:P12 [1,1,1,1,1,1,1,1,0,0,0,1,0,1,0,1,0,0,1,0,0,0]=.region 21 (O12 [1,1,1,1,1,1,1,1,0,0,0,1,0,1,0,1,0,0,1,0,0,0]) false:=by kernel_rfl
theorem r12_21 {x1:Int} {Y10:Option Addr} {l10 y10:Nat} {Y12:Option Addr} {l12 y12:Nat} {x13:Int} {M:Mem} {call:CallM} {K:Array Value→Mem→R} :
 opsK Try.prog (fun _=>call) (O12 [1,1,1,1,1,1,1,1,0,0,0,1,0,1,0,1,0,0,1,0,0,0]) (O12 [1,1,1,1,1,1,1,1,0,0,0,1,0,1,0,1,0,0,1,0,0,0]).toList 0 #[g0,.int .i64 x1,g2,g3,g4,g5,g6,g7,g8,g9,.slice Y10 l10 y10,gB,.slice Y12 l12 y12,.int .i64 x13,gE,gF,gG,gH,gI,gJ,gK,gL,gM,gN,gO,gP,gQ,gR,gS,gT,gU,gV,gW,gX,gY,gZ,hA,hB,hC,hD,hE,hF,hG,hH,hI,hJ,hK,hL,hM,hN,hO,hP,hQ,hR,hS,hT,hU,hV,hW,hX,hY,hZ,h0,h1,h2,h3,h4,h5,h6,h7,h8,h9,jA,jB,jC,jD,jE,jF,jG,jH,jI,jJ,jK,jL,jM,jN,jO,jP,jQ,jR,jS,jT,jU,jV,jW,jX,jY,jZ,j0,j1,j2,j3,j4,j5,j6,j7] M K=withK (fun w58 w59 w60 w61 w62 w63 w64 w65 w66 M=>K #[g0,.int .i64 x1,g2,g3,g4,g5,g6,g7,g8,g9,.slice Y10 l10 y10,gB,.slice Y12 l12 y12,.int .i64 x13,gE,gF,gG,gH,gI,gJ,gK,gL,gM,gN,gO,gP,gQ,gR,gS,gT,gU,gV,gW,gX,gY,gZ,hA,hB,hC,hD,hE,hF,hG,hH,hI,hJ,hK,hL,hM,hN,hO,hP,hQ,hR,hS,hT,.slice Y10 l10 y10,.int .i64 x13,w58,w59,w60,w61,w62,w63,w64,w65,w66,h5,h6,h7,h8,h9,jA,jB,jC,jD,jE,jF,jG,jH,jI,jJ,jK,jL,jM,jN,jO,jP,jQ,jR,jS,jT,jU,jV,jW,jX,jY,jZ,j0,j1,j2,j3,j4,j5,j6,j7] M) fun k=>(idxA Y10 l10 1 x13).bind fun a_1=>(M.intAt .i64 a_1.block a_1.off).bind fun x_2=>cond (decide (x_2>0)) (k (.pointer (some a_1)) (.int .i64 x_2) (.bool (decide (x_2>0))) (.bool true) (.slice Y12 l12 y12) (.int .i64 ((l12:Int))) (.int .i64 x1) (.bool (decide (((l12:Int))<x1))) (.bool (decide (((l12:Int))<x1))) M) (k (.pointer (some a_1)) (.int .i64 x_2) (.bool (decide (x_2>0))) (.bool false) undef undef undef undef (.bool false) M):=by kernel_rfl
theorem k12_85:P12 [1,1,1,1,1,1,1,1,0,0,0,1,0,1,0,1,0,0,0,1,1]=.exit 4:=by kernel_rfl
theorem k12_86:P12 [1,1,1,1,1,1,1,1,0,0,0,1,0,1,1]=.seq (P12 [1,1,1,1,1,1,1,1,0,0,0,1,0,1,1,0]) (P12 [1,1,1,1,1,1,1,1,0,0,0,1,0,1,1,1]):=by kernel_rfl
theorem k12_87:P12 [1,1,1,1,1,1,1,1,0,0,0,1,0,1,1,0]=.region 23 (O12 [1,1,1,1,1,1,1,1,0,0,0,1,0,1,1,0]) false:=by kernel_rfl
theorem r12_23 {M:Mem} {call:CallM} {K:Array Value→Mem→R} :
 opsK Try.prog (fun _=>call) (O12 [1,1,1,1,1,1,1,1,0,0,0,1,0,1,1,0]) (O12 [1,1,1,1,1,1,1,1,0,0,0,1,0,1,1,0]).toList 0 #[g0,g1,g2,g3,g4,g5,g6,g7,g8,g9,gA,gB,gC,gD,gE,gF,gG,gH,gI,gJ,gK,gL,gM,gN,gO,gP,gQ,gR,gS,gT,gU,gV,gW,gX,gY,gZ,hA,hB,hC,hD,hE,hF,hG,hH,hI,hJ,hK,hL,hM,hN,hO,hP,hQ,hR,hS,hT,hU,hV,hW,hX,hY,hZ,h0,h1,h2,h3,h4,h5,h6,h7,h8,h9,jA,jB,jC,jD,jE,jF,jG,jH,jI,jJ,jK,jL,jM,jN,jO,jP,jQ,jR,jS,jT,jU,jV,jW,jX,jY,jZ,j0,j1,j2,j3,j4,j5,j6,j7] M K=K #[g0,g1,g2,g3,g4,g5,g6,g7,g8,g9,gA,gB,gC,gD,.int .i64 0,gF,gG,gH,gI,gJ,gK,gL,gM,gN,gO,gP,gQ,gR,gS,gT,gU,gV,gW,gX,gY,gZ,hA,hB,hC,hD,hE,hF,hG,hH,hI,hJ,hK,hL,hM,hN,hO,hP,hQ,hR,hS,hT,hU,hV,hW,hX,hY,hZ,h0,h1,h2,h3,h4,h5,h6,h7,h8,h9,jA,jB,jC,jD,jE,jF,jG,jH,jI,jJ,jK,jL,jM,jN,jO,jP,jQ,jR,jS,jT,jU,jV,jW,jX,jY,jZ,j0,j1,j2,j3,j4,j5,j6,j7] M:=by kernel_rfl
theorem k12_88:P12 [1,1,1,1,1,1,1,1,0,0,0,1,0,1,1,1]=.seq (P12 [1,1,1,1,1,1,1,1,0,0,0,1,0,1,1,1,0]) (P12 [1,1,1,1,1,1,1,1,0,0,0,1,0,1,1,1,1]):=by kernel_rfl
theorem k12_89:P12 [1,1,1,1,1,1,1,1,0,0,0,1,0,1,1,1,0]=.seq (P12 [1,1,1,1,1,1,1,1,0,0,0,1,0,1,1,1,0,0]) (P12 [1,1,1,1,1,1,1,1,0,0,0,1,0,1,1,1,0,1]):=by kernel_rfl
theorem k12_90:P12 [1,1,1,1,1,1,1,1,0,0,0,1,0,1,1,1,0,0]=.region 24 (O12 [1,1,1,1,1,1,1,1,0,0,0,1,0,1,1,1,0,0]) false:=by kernel_rfl
theorem r12_24 {Y2:Option Addr} {l2 y2:Nat} {Y11:Option Addr} {l11 y11:Nat} {M:Mem} {call:CallM} {K:Array Value→Mem→R} :
 opsK Try.prog (fun _=>call) (O12 [1,1,1,1,1,1,1,1,0,0,0,1,0,1,1,1,0,0]) (O12 [1,1,1,1,1,1,1,1,0,0,0,1,0,1,1,1,0,0]).toList 0 #[g0,g1,.slice Y2 l2 y2,g3,g4,g5,g6,g7,g8,g9,gA,.slice Y11 l11 y11,gC,gD,gE,gF,gG,gH,gI,gJ,gK,gL,gM,gN,gO,gP,gQ,gR,gS,gT,gU,gV,gW,gX,gY,gZ,hA,hB,hC,hD,hE,hF,hG,hH,hI,hJ,hK,hL,hM,hN,hO,hP,hQ,hR,hS,hT,hU,hV,hW,hX,hY,hZ,h0,h1,h2,h3,h4,h5,h6,h7,h8,h9,jA,jB,jC,jD,jE,jF,jG,jH,jI,jJ,jK,jL,jM,jN,jO,jP,jQ,jR,jS,jT,jU,jV,jW,jX,jY,jZ,j0,j1,j2,j3,j4,j5,j6,j7] M K=K #[g0,g1,.slice Y2 l2 y2,g3,g4,g5,g6,g7,g8,g9,gA,.slice Y11 l11 y11,gC,gD,gE,gF,gG,gH,gI,gJ,gK,gL,gM,gN,gO,gP,gQ,gR,gS,gT,gU,gV,gW,gX,gY,gZ,hA,hB,hC,hD,hE,hF,hG,hH,hI,hJ,hK,hL,hM,hN,hO,hP,hQ,hR,hS,hT,hU,hV,hW,hX,hY,hZ,h0,h1,h2,h3,h4,h5,h6,h7,h8,.slice Y11 l11 y11,.int .i64 ((l11:Int)),.slice Y2 l2 y2,.int .i64 ((l2:Int)),.bool (decide (((l11:Int))<((l2:Int)))),jE,jF,jG,jH,jI,jJ,jK,jL,jM,jN,jO,jP,jQ,jR,jS,jT,jU,jV,jW,jX,jY,jZ,j0,j1,j2,j3,j4,j5,j6,j7] M:=by kernel_rfl
theorem c12_91:P12 [1,1,1,1,1,1,1,1,0,0,0,1,0,1,1,1,0,1]=.cond (.tmp 75) (P12 [1,1,1,1,1,1,1,1,0,0,0,1,0,1,1,1,0,1,0]) (P12 [1,1,1,1,1,1,1,1,0,0,0,1,0,1,1,1,0,1,1]):=by kernel_rfl
theorem k12_92:P12 [1,1,1,1,1,1,1,1,0,0,0,1,0,1,1,1,0,1,0]=.region 25 (O12 [1,1,1,1,1,1,1,1,0,0,0,1,0,1,1,1,0,1,0]) false:=by kernel_rfl
theorem r12_25 {Y2:Option Addr} {l2 y2:Nat} {Y11:Option Addr} {l11 y11:Nat} {Y12:Option Addr} {l12 y12:Nat} {M:Mem} {call:CallM} {K:Array Value→Mem→R} :
 opsK Try.prog (fun _=>call) (O12 [1,1,1,1,1,1,1,1,0,0,0,1,0,1,1,1,0,1,0]) (O12 [1,1,1,1,1,1,1,1,0,0,0,1,0,1,1,1,0,1,0]).toList 0 #[g0,g1,.slice Y2 l2 y2,g3,g4,g5,g6,g7,g8,g9,gA,.slice Y11 l11 y11,.slice Y12 l12 y12,gD,gE,gF,gG,gH,gI,gJ,gK,gL,gM,gN,gO,gP,gQ,gR,gS,gT,gU,gV,gW,gX,gY,gZ,hA,hB,hC,hD,hE,hF,hG,hH,hI,hJ,hK,hL,hM,hN,hO,hP,hQ,hR,hS,hT,hU,hV,hW,hX,hY,hZ,h0,h1,h2,h3,h4,h5,h6,h7,h8,h9,jA,jB,jC,jD,jE,jF,jG,jH,jI,jJ,jK,jL,jM,jN,jO,jP,jQ,jR,jS,jT,jU,jV,jW,jX,jY,jZ,j0,j1,j2,j3,j4,j5,j6,j7] M K=(idxA Y2 l2 1 ((l11:Int))).bind fun a_1=>(M.intAt .i64 a_1.block a_1.off).bind fun x_2=>(call 15 #[.int .i64 x_2,.int .i64 ((l12:Int))] M).bind fun r_3=>(asI .i64 r_3.1).bind fun x_4=>K #[g0,g1,.slice Y2 l2 y2,g3,g4,g5,g6,g7,g8,g9,gA,.slice Y11 l11 y11,.slice Y12 l12 y12,gD,.int .i64 x_4,gF,gG,gH,gI,gJ,gK,gL,gM,gN,gO,gP,gQ,gR,gS,gT,gU,gV,gW,gX,gY,gZ,hA,hB,hC,hD,hE,hF,hG,hH,hI,hJ,hK,hL,hM,hN,hO,hP,hQ,hR,hS,hT,hU,hV,hW,hX,hY,hZ,h0,h1,h2,h3,h4,h5,h6,h7,h8,h9,jA,jB,jC,jD,.slice Y2 l2 y2,.slice Y11 l11 y11,.int .i64 ((l11:Int)),.pointer (some a_1),.int .i64 x_2,.slice Y12 l12 y12,.int .i64 ((l12:Int)),.int .i64 x_4,jM,jN,jO,jP,jQ,jR,jS,jT,jU,jV,jW,jX,jY,jZ,j0,j1,j2,j3,j4,j5,j6,j7] r_3.2:=by kernel_rfl
theorem k12_93:P12 [1,1,1,1,1,1,1,1,0,0,0,1,0,1,1,1,1]=.seq (P12 [1,1,1,1,1,1,1,1,0,0,0,1,0,1,1,1,1,0]) (P12 [1,1,1,1,1,1,1,1,0,0,0,1,0,1,1,1,1,1]):=by kernel_rfl
theorem k12_94:P12 [1,1,1,1,1,1,1,1,0,0,0,1,0,1,1,1,1,0]=.region 26 (O12 [1,1,1,1,1,1,1,1,0,0,0,1,0,1,1,1,1,0]) true∧drawOk (O12 [1,1,1,1,1,1,1,1,0,0,0,1,0,1,1,1,1,0])=true:=⟨by kernel_rfl,by kernel_rfl⟩
theorem r12_26 {Y10:Option Addr} {l10 y10:Nat} {Y12:Option Addr} {l12 y12:Nat} {x14:Int} {M:Mem} {call:CallM} {K:Array Value→Mem→R} :
    opsI Try.prog (callAt call (O12 [1,1,1,1,1,1,1,1,0,0,0,1,0,1,1,1,1,0])) (O12 [1,1,1,1,1,1,1,1,0,0,0,1,0,1,1,1,1,0]) (ordOf (O12 [1,1,1,1,1,1,1,1,0,0,0,1,0,1,1,1,1,0])) [] #[g0,g1,g2,g3,g4,g5,g6,g7,g8,g9,.slice Y10 l10 y10,gB,.slice Y12 l12 y12,gD,.int .i64 x14,gF,gG,gH,gI,gJ,gK,gL,gM,gN,gO,gP,gQ,gR,gS,gT,gU,gV,gW,gX,gY,gZ,hA,hB,hC,hD,hE,hF,hG,hH,hI,hJ,hK,hL,hM,hN,hO,hP,hQ,hR,hS,hT,hU,hV,hW,hX,hY,hZ,h0,h1,h2,h3,h4,h5,h6,h7,h8,h9,jA,jB,jC,jD,jE,jF,jG,jH,jI,jJ,jK,jL,jM,jN,jO,jP,jQ,jR,jS,jT,jU,jV,jW,jX,jY,jZ,j0,j1,j2,j3,j4,j5,j6,j7] M K=(idxA Y12 l12 1 x14).bind fun a_1=>(M.intAt .i64 a_1.block a_1.off).bind fun x_2=>(idxA Y12 l12 1 x14).bind fun a_3=>(M.intAt .i64 a_3.block a_3.off).bind fun x_4=>(idxA Y10 l10 1 x_4).bind fun a_5=>(M.intAt .i64 a_5.block a_5.off).bind fun x_6=>(idxA Y10 l10 1 x_2).bind fun a_7=>(M.put a_7.block a_7.off (.int .i64 (IntKind.i64.wrap (x_6-1)))).bind fun M_8=>K #[g0,g1,g2,g3,g4,g5,g6,g7,g8,g9,.slice Y10 l10 y10,gB,.slice Y12 l12 y12,gD,.int .i64 x14,gF,gG,gH,gI,gJ,gK,gL,gM,gN,gO,gP,gQ,gR,gS,gT,gU,gV,gW,gX,gY,gZ,hA,hB,hC,hD,hE,hF,hG,hH,hI,hJ,hK,hL,hM,hN,hO,hP,hQ,hR,hS,hT,hU,hV,hW,hX,hY,hZ,h0,h1,h2,h3,h4,h5,h6,h7,h8,h9,jA,jB,jC,jD,jE,jF,jG,jH,jI,jJ,jK,jL,.slice Y10 l10 y10,.slice Y12 l12 y12,.int .i64 x14,.pointer (some a_1),.int .i64 x_2,.slice Y10 l10 y10,.slice Y12 l12 y12,.int .i64 x14,.pointer (some a_3),.int .i64 x_4,.pointer (some a_5),.int .i64 x_6,.int .i64 (IntKind.i64.wrap (x_6-1)),.pointer (some a_7),j0,j1,j2,j3,j4,j5,j6,j7] M_8:=by kernel_rfl
theorem k12_95:P12 [1,1,1,1,1,1,1,1,0,0,0,1,0,1,1,1,1,1]=.region 27 (O12 [1,1,1,1,1,1,1,1,0,0,0,1,0,1,1,1,1,1]) false:=by kernel_rfl
theorem r12_27 {Y11:Option Addr} {l11 y11:Nat} {Y12:Option Addr} {l12 y12:Nat} {x14:Int} {M:Mem} {call:CallM} {K:Array Value→Mem→R} :
 opsK Try.prog (fun _=>call) (O12 [1,1,1,1,1,1,1,1,0,0,0,1,0,1,1,1,1,1]) (O12 [1,1,1,1,1,1,1,1,0,0,0,1,0,1,1,1,1,1]).toList 0 #[g0,g1,g2,g3,g4,g5,g6,g7,g8,g9,gA,.slice Y11 l11 y11,.slice Y12 l12 y12,gD,.int .i64 x14,gF,gG,gH,gI,gJ,gK,gL,gM,gN,gO,gP,gQ,gR,gS,gT,gU,gV,gW,gX,gY,gZ,hA,hB,hC,hD,hE,hF,hG,hH,hI,hJ,hK,hL,hM,hN,hO,hP,hQ,hR,hS,hT,hU,hV,hW,hX,hY,hZ,h0,h1,h2,h3,h4,h5,h6,h7,h8,h9,jA,jB,jC,jD,jE,jF,jG,jH,jI,jJ,jK,jL,jM,jN,jO,jP,jQ,jR,jS,jT,jU,jV,jW,jX,jY,jZ,j0,j1,j2,j3,j4,j5,j6,j7] M K=(idxA Y12 l12 1 x14).bind fun a_1=>(M.intAt .i64 a_1.block a_1.off).bind fun x_2=>(appendP Try.prog #[22,22] (.slice Y11 l11 y11) (.slice (some ⟨2*M.nb.size,0,none⟩) 1 1) (M.new (.cells #[.int .i64 x_2] 3))).bind fun r_3=>(asS r_3.1).bind fun s_4=>K #[g0,g1,g2,g3,g4,g5,g6,g7,g8,g9,gA,.slice s_4.1 (s_4.2.1) (s_4.2.2),.slice Y12 l12 y12,gD,.int .i64 x14,gF,gG,gH,gI,gJ,gK,gL,gM,gN,gO,gP,gQ,gR,gS,gT,gU,gV,gW,gX,gY,gZ,hA,hB,hC,hD,hE,hF,hG,hH,hI,hJ,hK,hL,hM,hN,hO,hP,hQ,hR,hS,hT,hU,hV,hW,hX,hY,hZ,h0,h1,h2,h3,h4,h5,h6,h7,h8,h9,jA,jB,jC,jD,jE,jF,jG,jH,jI,jJ,jK,jL,jM,jN,jO,jP,jQ,jR,jS,jT,jU,jV,jW,jX,jY,jZ,.slice Y11 l11 y11,.slice Y12 l12 y12,.int .i64 x14,.pointer (some a_1),.int .i64 x_2,.slice (some ⟨2*M.nb.size,0,none⟩) 1 1,.slice s_4.1 (s_4.2.1) (s_4.2.2),j7] r_3.2:=by kernel_rfl
theorem k12_96:P12 [1,1,1,1,1,1,1,1,0,0,0,1,0,1,1,1,0,1,1]=.skip:=by kernel_rfl
theorem c12_97:P12 [1,1,1,1,1,1,1,1,0,0,0,1,0,1,0,1,0,0,1,0,0,1]=.cond (.tmp 66) (P12 [1,1,1,1,1,1,1,1,0,0,0,1,0,1,0,1,0,0,1,0,0,1,0]) (P12 [1,1,1,1,1,1,1,1,0,0,0,1,0,1,0,1,0,0,1,0,0,1,1]):=by kernel_rfl
theorem k12_98:P12 [1,1,1,1,1,1,1,1,0,0,0,1,0,1,0,1,0,0,1,0,0,1,0]=.region 22 (O12 [1,1,1,1,1,1,1,1,0,0,0,1,0,1,0,1,0,0,1,0,0,1,0]) false:=by kernel_rfl
theorem r12_22 {Y12:Option Addr} {l12 y12:Nat} {x13:Int} {M:Mem} {call:CallM} {K:Array Value→Mem→R} :
 opsK Try.prog (fun _=>call) (O12 [1,1,1,1,1,1,1,1,0,0,0,1,0,1,0,1,0,0,1,0,0,1,0]) (O12 [1,1,1,1,1,1,1,1,0,0,0,1,0,1,0,1,0,0,1,0,0,1,0]).toList 0 #[g0,g1,g2,g3,g4,g5,g6,g7,g8,g9,gA,gB,.slice Y12 l12 y12,.int .i64 x13,gE,gF,gG,gH,gI,gJ,gK,gL,gM,gN,gO,gP,gQ,gR,gS,gT,gU,gV,gW,gX,gY,gZ,hA,hB,hC,hD,hE,hF,hG,hH,hI,hJ,hK,hL,hM,hN,hO,hP,hQ,hR,hS,hT,hU,hV,hW,hX,hY,hZ,h0,h1,h2,h3,h4,h5,h6,h7,h8,h9,jA,jB,jC,jD,jE,jF,jG,jH,jI,jJ,jK,jL,jM,jN,jO,jP,jQ,jR,jS,jT,jU,jV,jW,jX,jY,jZ,j0,j1,j2,j3,j4,j5,j6,j7] M K=(appendP Try.prog #[22,22] (.slice Y12 l12 y12) (.slice (some ⟨2*M.nb.size,0,none⟩) 1 1) (M.new (.cells #[.int .i64 x13] 3))).bind fun r_1=>(asS r_1.1).bind fun s_2=>K #[g0,g1,g2,g3,g4,g5,g6,g7,g8,g9,gA,gB,.slice s_2.1 (s_2.2.1) (s_2.2.2),.int .i64 x13,gE,gF,gG,gH,gI,gJ,gK,gL,gM,gN,gO,gP,gQ,gR,gS,gT,gU,gV,gW,gX,gY,gZ,hA,hB,hC,hD,hE,hF,hG,hH,hI,hJ,hK,hL,hM,hN,hO,hP,hQ,hR,hS,hT,hU,hV,hW,hX,hY,hZ,h0,h1,h2,h3,h4,.slice Y12 l12 y12,.int .i64 x13,.slice (some ⟨2*M.nb.size,0,none⟩) 1 1,.slice s_2.1 (s_2.2.1) (s_2.2.2),h9,jA,jB,jC,jD,jE,jF,jG,jH,jI,jJ,jK,jL,jM,jN,jO,jP,jQ,jR,jS,jT,jU,jV,jW,jX,jY,jZ,j0,j1,j2,j3,j4,j5,j6,j7] r_1.2:=by kernel_rfl
theorem k12_99:P12 [1,1,1,1,1,1,1,1,0,0,0,1,0,1,0,1,0,0,1,0,0,1,1]=.skip:=by kernel_rfl
theorem k12_100:P12 [1,1,1,1,1,1,1,1,0,0,0,1,0,1,0,1,0,0,1,1]=.region 20 (O12 [1,1,1,1,1,1,1,1,0,0,0,1,0,1,0,1,0,0,1,1]) false:=by kernel_rfl
theorem r12_20 {x13:Int} {M:Mem} {call:CallM} {K:Array Value→Mem→R} :
 opsK Try.prog (fun _=>call) (O12 [1,1,1,1,1,1,1,1,0,0,0,1,0,1,0,1,0,0,1,1]) (O12 [1,1,1,1,1,1,1,1,0,0,0,1,0,1,0,1,0,0,1,1]).toList 0 #[g0,g1,g2,g3,g4,g5,g6,g7,g8,g9,gA,gB,gC,.int .i64 x13,gE,gF,gG,gH,gI,gJ,gK,gL,gM,gN,gO,gP,gQ,gR,gS,gT,gU,gV,gW,gX,gY,gZ,hA,hB,hC,hD,hE,hF,hG,hH,hI,hJ,hK,hL,hM,hN,hO,hP,hQ,hR,hS,hT,hU,hV,hW,hX,hY,hZ,h0,h1,h2,h3,h4,h5,h6,h7,h8,h9,jA,jB,jC,jD,jE,jF,jG,jH,jI,jJ,jK,jL,jM,jN,jO,jP,jQ,jR,jS,jT,jU,jV,jW,jX,jY,jZ,j0,j1,j2,j3,j4,j5,j6,j7] M K=K #[g0,g1,g2,g3,g4,g5,g6,g7,g8,g9,gA,gB,gC,.int .i64 (IntKind.i64.wrap (x13+1)),gE,gF,gG,gH,gI,gJ,gK,gL,gM,gN,gO,gP,gQ,gR,gS,gT,gU,gV,gW,gX,gY,gZ,hA,hB,hC,hD,hE,hF,hG,hH,hI,hJ,hK,hL,hM,hN,hO,hP,hQ,hR,.int .i64 x13,.int .i64 (IntKind.i64.wrap (x13+1)),hU,hV,hW,hX,hY,hZ,h0,h1,h2,h3,h4,h5,h6,h7,h8,h9,jA,jB,jC,jD,jE,jF,jG,jH,jI,jJ,jK,jL,jM,jN,jO,jP,jQ,jR,jS,jT,jU,jV,jW,jX,jY,jZ,j0,j1,j2,j3,j4,j5,j6,j7] M:=by kernel_rfl
noncomputable def S12_1:List Item:=[.code (P12 [1,1,1,0,1,0,0]),.inLoop (P12 [1,1,1,0,1,0,0]),.inBlock 0,.code (P12 [1,1,1,1])]
def A12_1 (Y0:Option Addr) (l0 y0:Nat) (x1:Int) (Y2:Option Addr) (l2 y2:Nat) (x8 x9:Int) (M:Mem) (Q:Value→Mem→Prop):Prop:=∀ (g3 g4 g5 g6 g7 gA gB gC gD gE gF gG gH gI gJ gK gL gM gN gO gP gQ gR gS gT gU gV gW gX gY gZ hA hB hC hD hE hF hG hH hI hJ hK hL hM hN hO hP hQ hR hS hT hU hV hW hX hY hZ h0 h1 h2 h3 h4 h5 h6 h7 h8 h9 jA jB jC jD jE jF jG jH jI jJ jK jL jM jN jO jP jQ jR jS jT jU jV jW jX jY jZ j0 j1 j2 j3 j4 j5 j6 j7:Value),Rn Try.prog Try.f12 S12_1 #[.slice Y0 l0 y0,.int .i64 x1,.slice Y2 l2 y2,g3,g4,g5,g6,g7,.int .i64 x8,.int .i64 x9,gA,gB,gC,gD,gE,gF,gG,gH,gI,gJ,gK,gL,gM,gN,gO,gP,gQ,gR,gS,gT,gU,gV,gW,gX,gY,gZ,hA,hB,hC,hD,hE,hF,hG,hH,hI,hJ,hK,hL,hM,hN,hO,hP,hQ,hR,hS,hT,hU,hV,hW,hX,hY,hZ,h0,h1,h2,h3,h4,h5,h6,h7,h8,h9,jA,jB,jC,jD,jE,jF,jG,jH,jI,jJ,jK,jL,jM,jN,jO,jP,jQ,jR,jS,jT,jU,jV,jW,jX,jY,jZ,j0,j1,j2,j3,j4,j5,j6,j7] M Q
noncomputable def S12_2:List Item:=[.code (P12 [1,1,1,1,1,0,1]),.code (P12 [1,1,1,1,1,1])]
def A12_2 (Y0:Option Addr) (l0 y0:Nat) (x1:Int) (Y2:Option Addr) (l2 y2:Nat) (x8:Int) (x43:Bool) (M:Mem) (Q:Value→Mem→Prop):Prop:=∀ (g3 g4 g5 g6 g7 g9 gA gB gC gD gE gF gG gH gI gJ gK gL gM gN gO gP gQ gR gS gT gU gV gW gX gY gZ hA hB hC hD hE hF hG hI hJ hK hL hM hN hO hP hQ hR hS hT hU hV hW hX hY hZ h0 h1 h2 h3 h4 h5 h6 h7 h8 h9 jA jB jC jD jE jF jG jH jI jJ jK jL jM jN jO jP jQ jR jS jT jU jV jW jX jY jZ j0 j1 j2 j3 j4 j5 j6 j7:Value),Rn Try.prog Try.f12 S12_2 #[.slice Y0 l0 y0,.int .i64 x1,.slice Y2 l2 y2,g3,g4,g5,g6,g7,.int .i64 x8,g9,gA,gB,gC,gD,gE,gF,gG,gH,gI,gJ,gK,gL,gM,gN,gO,gP,gQ,gR,gS,gT,gU,gV,gW,gX,gY,gZ,hA,hB,hC,hD,hE,hF,hG,.bool x43,hI,hJ,hK,hL,hM,hN,hO,hP,hQ,hR,hS,hT,hU,hV,hW,hX,hY,hZ,h0,h1,h2,h3,h4,h5,h6,h7,h8,h9,jA,jB,jC,jD,jE,jF,jG,jH,jI,jJ,jK,jL,jM,jN,jO,jP,jQ,jR,jS,jT,jU,jV,jW,jX,jY,jZ,j0,j1,j2,j3,j4,j5,j6,j7] M Q
noncomputable def S12_3:List Item:=[.code (P12 [1,1,1,1,1,1,1,1,0,0,0]),.inLoop (P12 [1,1,1,1,1,1,1,1,0,0,0]),.inBlock 2,.code (P12 [1,1,1,1,1,1,1,1,1])]
def A12_3 (x1:Int) (Y2:Option Addr) (l2 y2:Nat) (x8:Int) (Y10:Option Addr) (l10 y10:Nat) (Y11:Option Addr) (l11 y11:Nat) (M:Mem) (Q:Value→Mem→Prop):Prop:=∀ (g0 g3 g4 g5 g6 g7 g9 gC gD gE gF gG gH gI gJ gK gL gM gN gO gP gQ gR gS gT gU gV gW gX gY gZ hA hB hC hD hE hF hG hH hI hJ hK hL hM hN hO hP hQ hR hS hT hU hV hW hX hY hZ h0 h1 h2 h3 h4 h5 h6 h7 h8 h9 jA jB jC jD jE jF jG jH jI jJ jK jL jM jN jO jP jQ jR jS jT jU jV jW jX jY jZ j0 j1 j2 j3 j4 j5 j6 j7:Value),Rn Try.prog Try.f12 S12_3 #[g0,.int .i64 x1,.slice Y2 l2 y2,g3,g4,g5,g6,g7,.int .i64 x8,g9,.slice Y10 l10 y10,.slice Y11 l11 y11,gC,gD,gE,gF,gG,gH,gI,gJ,gK,gL,gM,gN,gO,gP,gQ,gR,gS,gT,gU,gV,gW,gX,gY,gZ,hA,hB,hC,hD,hE,hF,hG,hH,hI,hJ,hK,hL,hM,hN,hO,hP,hQ,hR,hS,hT,hU,hV,hW,hX,hY,hZ,h0,h1,h2,h3,h4,h5,h6,h7,h8,h9,jA,jB,jC,jD,jE,jF,jG,jH,jI,jJ,jK,jL,jM,jN,jO,jP,jQ,jR,jS,jT,jU,jV,jW,jX,jY,jZ,j0,j1,j2,j3,j4,j5,j6,j7] M Q
noncomputable def S12_4:List Item:=[.code (P12 [1,1,1,1,1,1,1,1,0,0,0,1,0,1,0,1,0,0]),.inLoop (P12 [1,1,1,1,1,1,1,1,0,0,0,1,0,1,0,1,0,0]),.inBlock 4,.code (P12 [1,1,1,1,1,1,1,1,0,0,0,1,0,1,1]),.inBlock 3,.inLoop (P12 [1,1,1,1,1,1,1,1,0,0,0]),.inBlock 2,.code (P12 [1,1,1,1,1,1,1,1,1])]
def A12_4 (x1:Int) (Y2:Option Addr) (l2 y2:Nat) (x8:Int) (Y10:Option Addr) (l10 y10:Nat) (Y11:Option Addr) (l11 y11:Nat) (Y12:Option Addr) (l12 y12:Nat) (x13:Int) (M:Mem) (Q:Value→Mem→Prop):Prop:=∀ (g0 g3 g4 g5 g6 g7 g9 gE gF gG gH gI gJ gK gL gM gN gO gP gQ gR gS gT gU gV gW gX gY gZ hA hB hC hD hE hF hG hH hI hJ hK hL hM hN hO hP hQ hR hS hT hU hV hW hX hY hZ h0 h1 h2 h3 h4 h5 h6 h7 h8 h9 jA jB jC jD jE jF jG jH jI jJ jK jL jM jN jO jP jQ jR jS jT jU jV jW jX jY jZ j0 j1 j2 j3 j4 j5 j6 j7:Value),Rn Try.prog Try.f12 S12_4 #[g0,.int .i64 x1,.slice Y2 l2 y2,g3,g4,g5,g6,g7,.int .i64 x8,g9,.slice Y10 l10 y10,.slice Y11 l11 y11,.slice Y12 l12 y12,.int .i64 x13,gE,gF,gG,gH,gI,gJ,gK,gL,gM,gN,gO,gP,gQ,gR,gS,gT,gU,gV,gW,gX,gY,gZ,hA,hB,hC,hD,hE,hF,hG,hH,hI,hJ,hK,hL,hM,hN,hO,hP,hQ,hR,hS,hT,hU,hV,hW,hX,hY,hZ,h0,h1,h2,h3,h4,h5,h6,h7,h8,h9,jA,jB,jC,jD,jE,jF,jG,jH,jI,jJ,jK,jL,jM,jN,jO,jP,jQ,jR,jS,jT,jU,jV,jW,jX,jY,jZ,j0,j1,j2,j3,j4,j5,j6,j7] M Q
noncomputable def S12_5:List Item:=[.code (P12 [1,1,1,1,1,1,1,1,0,0,0,1,0,1,0,1,0,0,1,0,0,1]),.inBlock 5,.code (P12 [1,1,1,1,1,1,1,1,0,0,0,1,0,1,0,1,0,0,1,1]),.inLoop (P12 [1,1,1,1,1,1,1,1,0,0,0,1,0,1,0,1,0,0]),.inBlock 4,.code (P12 [1,1,1,1,1,1,1,1,0,0,0,1,0,1,1]),.inBlock 3,.inLoop (P12 [1,1,1,1,1,1,1,1,0,0,0]),.inBlock 2,.code (P12 [1,1,1,1,1,1,1,1,1])]
def A12_5 (x1:Int) (Y2:Option Addr) (l2 y2:Nat) (x8:Int) (Y10:Option Addr) (l10 y10:Nat) (Y11:Option Addr) (l11 y11:Nat) (Y12:Option Addr) (l12 y12:Nat) (x13:Int) (x66:Bool) (M:Mem) (Q:Value→Mem→Prop):Prop:=∀ (g0 g3 g4 g5 g6 g7 g9 gE gF gG gH gI gJ gK gL gM gN gO gP gQ gR gS gT gU gV gW gX gY gZ hA hB hC hD hE hF hG hH hI hJ hK hL hM hN hO hP hQ hR hS hT hU hV hW hX hY hZ h0 h1 h2 h3 h5 h6 h7 h8 h9 jA jB jC jD jE jF jG jH jI jJ jK jL jM jN jO jP jQ jR jS jT jU jV jW jX jY jZ j0 j1 j2 j3 j4 j5 j6 j7:Value),Rn Try.prog Try.f12 S12_5 #[g0,.int .i64 x1,.slice Y2 l2 y2,g3,g4,g5,g6,g7,.int .i64 x8,g9,.slice Y10 l10 y10,.slice Y11 l11 y11,.slice Y12 l12 y12,.int .i64 x13,gE,gF,gG,gH,gI,gJ,gK,gL,gM,gN,gO,gP,gQ,gR,gS,gT,gU,gV,gW,gX,gY,gZ,hA,hB,hC,hD,hE,hF,hG,hH,hI,hJ,hK,hL,hM,hN,hO,hP,hQ,hR,hS,hT,hU,hV,hW,hX,hY,hZ,h0,h1,h2,h3,.bool x66,h5,h6,h7,h8,h9,jA,jB,jC,jD,jE,jF,jG,jH,jI,jJ,jK,jL,jM,jN,jO,jP,jQ,jR,jS,jT,jU,jV,jW,jX,jY,jZ,j0,j1,j2,j3,j4,j5,j6,j7] M Q
noncomputable def S12_6:List Item:=[.code (P12 [1,1,1,1,1,1,1,1,0,0,0,1,0,1,0,1,0,0,1,1]),.inLoop (P12 [1,1,1,1,1,1,1,1,0,0,0,1,0,1,0,1,0,0]),.inBlock 4,.code (P12 [1,1,1,1,1,1,1,1,0,0,0,1,0,1,1]),.inBlock 3,.inLoop (P12 [1,1,1,1,1,1,1,1,0,0,0]),.inBlock 2,.code (P12 [1,1,1,1,1,1,1,1,1])]
def A12_6 (x1:Int) (Y2:Option Addr) (l2 y2:Nat) (x8:Int) (Y10:Option Addr) (l10 y10:Nat) (Y11:Option Addr) (l11 y11:Nat) (Y12:Option Addr) (l12 y12:Nat) (x13:Int) (M:Mem) (Q:Value→Mem→Prop):Prop:=∀ (g0 g3 g4 g5 g6 g7 g9 gE gF gG gH gI gJ gK gL gM gN gO gP gQ gR gS gT gU gV gW gX gY gZ hA hB hC hD hE hF hG hH hI hJ hK hL hM hN hO hP hQ hR hS hT hU hV hW hX hY hZ h0 h1 h2 h3 h4 h5 h6 h7 h8 h9 jA jB jC jD jE jF jG jH jI jJ jK jL jM jN jO jP jQ jR jS jT jU jV jW jX jY jZ j0 j1 j2 j3 j4 j5 j6 j7:Value),Rn Try.prog Try.f12 S12_6 #[g0,.int .i64 x1,.slice Y2 l2 y2,g3,g4,g5,g6,g7,.int .i64 x8,g9,.slice Y10 l10 y10,.slice Y11 l11 y11,.slice Y12 l12 y12,.int .i64 x13,gE,gF,gG,gH,gI,gJ,gK,gL,gM,gN,gO,gP,gQ,gR,gS,gT,gU,gV,gW,gX,gY,gZ,hA,hB,hC,hD,hE,hF,hG,hH,hI,hJ,hK,hL,hM,hN,hO,hP,hQ,hR,hS,hT,hU,hV,hW,hX,hY,hZ,h0,h1,h2,h3,h4,h5,h6,h7,h8,h9,jA,jB,jC,jD,jE,jF,jG,jH,jI,jJ,jK,jL,jM,jN,jO,jP,jQ,jR,jS,jT,jU,jV,jW,jX,jY,jZ,j0,j1,j2,j3,j4,j5,j6,j7] M Q
theorem w12_0 {Y0:Option Addr} {l0 y0:Nat} {x1:Int} {Y2:Option Addr} {l2 y2:Nat} {M:Mem} {Q:Value→Mem→Prop} (H :
 ((((l0:Int))>256→
 Q (.tuple #[.slice none 0 0,.int .i64 7]) M)∧
 (¬(((l0:Int))>256)→
 A12_1 Y0 l0 y0 x1 Y2 l2 y2 0 0 M Q))):
 Cn Try.prog 12 #[.slice Y0 l0 y0,.int .i64 x1,.slice Y2 l2 y2] M Q:=by
  refine Cn.of b12 d12 t12 ?_
  refine Rn.seq k12_0 (Rn.region k12_1 (fun call K=>r12_0) (Rch.leaf (Rn.seq k12_2 (Rn.seq k12_3 (Rn.region k12_4 (fun call K=>r12_1) (Rch.leaf ?_))))))
  refine Rn.cnd (v:=decide (((l0:Int))>256)) ⟨c12_5,rfl,by kernel_rfl⟩ (fun h=>?_) (fun h=>?_)
  · replace H:=H.1 (of_decide_eq_true h)
    refine Rn.seq k12_6 (Rn.region k12_7 (fun call K=>r12_2) (Rch.leaf ?_))
    exact Rn.ret k12_8 e12 H
  · replace H:=H.2 (of_decide_eq_false h)
    refine Rn.skip k12_10 (Rn.seq k12_11 (Rn.region k12_12 (fun call K=>r12_3) (Rch.leaf (Rn.seq k12_13 (Rn.seq k12_14 (Rn.region k12_15 (fun call K=>r12_4) (Rch.leaf (Rn.block k12_16 (Rn.loop k12_17 ?_)))))))))
    exact H ..
theorem w12_1 {Y0:Option Addr} {l0 y0:Nat} {x1:Int} {Y2:Option Addr} {l2 y2:Nat} {x8 x9:Int} {M:Mem} {Q:Value→Mem→Prop} (H :
 ((x9<((l0:Int))→
 ∃a1',idxA Y0 l0 1 x9=some a1'∧
 ∃x2',M.intAt .i64 a1'.block a1'.off=some x2'∧
 ((x2'<0→
 Q (.tuple #[.slice none 0 0,.int .i64 2]) M)∧
 (¬(x2'<0)→
 ∃a3',idxA Y0 l0 1 x9=some a3'∧
 ∃x4',M.intAt .i64 a3'.block a3'.off=some x4'∧
 A12_1 Y0 l0 y0 x1 Y2 l2 y2 (IntKind.i64.wrap (x8+(if 1048576<x4' then 1048576 else x4'))) (IntKind.i64.wrap (x9+1)) M Q)))∧
 (¬(x9<((l0:Int)))→
 ((x8>65536→
 Q (.tuple #[.slice none 0 0,.int .i64 7]) M)∧
 (¬(x8>65536)→
 ((x1<1→
 A12_2 Y0 l0 y0 x1 Y2 l2 y2 x8 true M Q)∧
 (¬(x1<1)→
 A12_2 Y0 l0 y0 x1 Y2 l2 y2 x8 (decide (x1>64)) M Q))))))):
 A12_1 Y0 l0 y0 x1 Y2 l2 y2 x8 x9 M Q:=by
  iterate 101 intro _
  refine Rn.seq k12_18 (Rn.seq k12_19 (Rn.region k12_20 (fun call K=>r12_5) (Rch.leaf ?_)))
  refine Rn.cnd (v:=decide (x9<((l0:Int)))) ⟨c12_21,rfl,by kernel_rfl⟩ (fun h=>?_) (fun h=>?_)
  · replace H:=H.1 (of_decide_eq_true h)
    refine Rn.skip k12_22 (Rn.seq k12_23 (Rn.block k12_24 (Rn.seq k12_25 (Rn.seq k12_26 (Rn.region k12_27 (fun call K=>r12_7) (Rch.ex H fun a1' H=>Rch.ex H fun x2' H=>Rch.leaf ?_))))))
    refine Rn.cnd (v:=decide (x2'<0)) ⟨c12_28,rfl,by kernel_rfl⟩ (fun h=>?_) (fun h=>?_)
    · replace H:=H.1 (of_decide_eq_true h)
      refine Rn.seq k12_29 (Rn.region k12_30 (fun call K=>r12_8) (Rch.leaf ?_))
      exact Rn.ret k12_31 e12 H
    · replace H:=H.2 (of_decide_eq_false h)
      refine Rn.skip k12_32 (Rn.region k12_33 (fun call K=>r12_9) (Rch.ex H fun a3' H=>Rch.ex H fun x4' H=>Rch.leaf (Rn.blk (Rn.region k12_34 (fun call K=>r12_6) (Rch.leaf (Rn.lp ?_))))))
      exact H ..
  · replace H:=H.2 (of_decide_eq_false h)
    refine Rn.exit k12_35 rfl (Rn.seq k12_36 (Rn.seq k12_37 (Rn.region k12_38 (fun call K=>r12_10) (Rch.leaf ?_))))
    refine Rn.cnd (v:=decide (x8>65536)) ⟨c12_39,rfl,by kernel_rfl⟩ (fun h=>?_) (fun h=>?_)
    · replace H:=H.1 (of_decide_eq_true h)
      refine Rn.seq k12_40 (Rn.region k12_41 (fun call K=>r12_11) (Rch.leaf ?_))
      exact Rn.ret k12_42 e12 H
    · replace H:=H.2 (of_decide_eq_false h)
      refine Rn.skip k12_43 (Rn.seq k12_44 (Rn.seq k12_45 (Rn.region k12_46 (fun call K=>r12_12) ?_)))
      refine Rch.cB (fun h=>?_) (fun h=>?_)
      · replace H:=H.1 (of_decide_eq_true h)
        refine Rch.leaf ?_
        exact H ..
      · replace H:=H.2 (of_decide_eq_false h)
        refine Rch.leaf ?_
        exact H ..
theorem w12_2 {Y0:Option Addr} {l0 y0:Nat} {x1:Int} {Y2:Option Addr} {l2 y2:Nat} {x8:Int} {x43:Bool} {M:Mem} {Q:Value→Mem→Prop} (H :
 ((x43=true→
 Q (.tuple #[.slice none 0 0,.int .i64 2]) M)∧
 (x43=false→
 Cn Try.prog 10 #[.slice Y0 l0 y0] M fun v5' N5'=>
 ∃s6',asS v5'=some s6'∧
 A12_3 x1 Y2 l2 y2 x8 s6'.1 s6'.2.1 s6'.2.2 none 0 0 N5' Q))):
 A12_2 Y0 l0 y0 x1 Y2 l2 y2 x8 x43 M Q:=by
  iterate 101 intro _
  refine Rn.cnd (v:=x43) ⟨c12_47,rfl,by kernel_rfl⟩ (fun h=>?_) (fun h=>?_)
  · replace H:=H.1 (h)
    refine Rn.seq k12_48 (Rn.region k12_49 (fun call K=>r12_13) (Rch.leaf ?_))
    exact Rn.ret k12_50 e12 H
  · replace H:=H.2 (h)
    refine Rn.skip k12_51 (Rn.seq k12_52 (Rn.region k12_53 (fun call K=>r12_14) (Rch.call H fun v5' N5' H=>Rch.ex H fun s6' H=>Rch.leaf (Rn.seq k12_54 (Rn.region k12_55 (fun call K=>r12_15) (Rch.leaf (Rn.seq k12_56 (Rn.block k12_57 (Rn.loop k12_58 ?_)))))))))
    exact H ..
theorem w12_3 {x1:Int} {Y2:Option Addr} {l2 y2:Nat} {x8:Int} {Y10:Option Addr} {l10 y10:Nat} {Y11:Option Addr} {l11 y11:Nat} {M:Mem} {Q:Value→Mem→Prop} (H :
 ((((l11:Int))<x8→
 A12_4 x1 Y2 l2 y2 x8 Y10 l10 y10 Y11 l11 y11 none 0 0 0 M Q)∧
 (¬(((l11:Int))<x8)→
 Q (.tuple #[.slice Y11 l11 y11,.int .i64 0]) M))):
 A12_3 x1 Y2 l2 y2 x8 Y10 l10 y10 Y11 l11 y11 M Q:=by
  iterate 101 intro _
  refine Rn.seq k12_59 (Rn.seq k12_60 (Rn.region k12_61 (fun call K=>r12_16) (Rch.leaf ?_)))
  refine Rn.cnd (v:=decide (((l11:Int))<x8)) ⟨c12_62,rfl,by kernel_rfl⟩ (fun h=>?_) (fun h=>?_)
  · replace H:=H.1 (of_decide_eq_true h)
    refine Rn.skip k12_63 (Rn.block k12_64 (Rn.seq k12_65 (Rn.region k12_66 (fun call K=>r12_17) (Rch.leaf (Rn.seq k12_67 (Rn.seq k12_68 (Rn.region k12_69 (fun call K=>r12_18) (Rch.leaf (Rn.block k12_70 (Rn.loop k12_71 ?_))))))))))
    exact H ..
  · replace H:=H.2 (of_decide_eq_false h)
    refine Rn.exit k12_72 rfl (Rn.seq k12_73 (Rn.region k12_74 (fun call K=>r12_28) (Rch.leaf ?_)))
    exact Rn.ret k12_75 e12 H
theorem w12_4 {x1:Int} {Y2:Option Addr} {l2 y2:Nat} {x8:Int} {Y10:Option Addr} {l10 y10:Nat} {Y11:Option Addr} {l11 y11:Nat} {Y12:Option Addr} {l12 y12:Nat} {x13:Int} {M:Mem} {Q:Value→Mem→Prop} (H :
 ((x13<((l10:Int))→
 ∃a7',idxA Y10 l10 1 x13=some a7'∧
 ∃x8',M.intAt .i64 a7'.block a7'.off=some x8'∧
 ((x8'>0→
 A12_5 x1 Y2 l2 y2 x8 Y10 l10 y10 Y11 l11 y11 Y12 l12 y12 x13 (decide (((l12:Int))<x1)) M Q)∧
 (¬(x8'>0)→
 A12_5 x1 Y2 l2 y2 x8 Y10 l10 y10 Y11 l11 y11 Y12 l12 y12 x13 false M Q)))∧
 (¬(x13<((l10:Int)))→
 ((((l11:Int))<((l2:Int))→
 ∃a9',idxA Y2 l2 1 ((l11:Int))=some a9'∧
 ∃x10',M.intAt .i64 a9'.block a9'.off=some x10'∧
 Cn Try.prog 15 #[.int .i64 x10',.int .i64 ((l12:Int))] M fun v11' N11'=>
 ∃x12',asI .i64 v11'=some x12'∧
 ∃a13',idxA Y12 l12 1 x12'=some a13'∧
 ∃x14',N11'.intAt .i64 a13'.block a13'.off=some x14'∧
 ∃a15',idxA Y12 l12 1 x12'=some a15'∧
 ∃x16',N11'.intAt .i64 a15'.block a15'.off=some x16'∧
 ∃a17',idxA Y10 l10 1 x16'=some a17'∧
 ∃x18',N11'.intAt .i64 a17'.block a17'.off=some x18'∧
 ∃a19',idxA Y10 l10 1 x14'=some a19'∧
 ∃M20',N11'.put a19'.block a19'.off (.int .i64 (IntKind.i64.wrap (x18'-1)))=some M20'∧
 ∃a21',idxA Y12 l12 1 x12'=some a21'∧
 ∃x22',M20'.intAt .i64 a21'.block a21'.off=some x22'∧
 ∃r23',appendP Try.prog #[22,22] (.slice Y11 l11 y11) (.slice (some ⟨2*M20'.nb.size,0,none⟩) 1 1) (M20'.new (.cells #[.int .i64 x22'] 3))=some r23'∧
 ∃s24',asS r23'.1=some s24'∧
 A12_3 x1 Y2 l2 y2 x8 Y10 l10 y10 s24'.1 s24'.2.1 s24'.2.2 r23'.2 Q)∧
 (¬(((l11:Int))<((l2:Int)))→
 ∃a25',idxA Y12 l12 1 0=some a25'∧
 ∃x26',M.intAt .i64 a25'.block a25'.off=some x26'∧
 ∃a27',idxA Y12 l12 1 0=some a27'∧
 ∃x28',M.intAt .i64 a27'.block a27'.off=some x28'∧
 ∃a29',idxA Y10 l10 1 x28'=some a29'∧
 ∃x30',M.intAt .i64 a29'.block a29'.off=some x30'∧
 ∃a31',idxA Y10 l10 1 x26'=some a31'∧
 ∃M32',M.put a31'.block a31'.off (.int .i64 (IntKind.i64.wrap (x30'-1)))=some M32'∧
 ∃a33',idxA Y12 l12 1 0=some a33'∧
 ∃x34',M32'.intAt .i64 a33'.block a33'.off=some x34'∧
 ∃r35',appendP Try.prog #[22,22] (.slice Y11 l11 y11) (.slice (some ⟨2*M32'.nb.size,0,none⟩) 1 1) (M32'.new (.cells #[.int .i64 x34'] 3))=some r35'∧
 ∃s36',asS r35'.1=some s36'∧
 A12_3 x1 Y2 l2 y2 x8 Y10 l10 y10 s36'.1 s36'.2.1 s36'.2.2 r35'.2 Q))))):
 A12_4 x1 Y2 l2 y2 x8 Y10 l10 y10 Y11 l11 y11 Y12 l12 y12 x13 M Q:=by
  iterate 99 intro _
  refine Rn.seq k12_76 (Rn.seq k12_77 (Rn.region k12_78 (fun call K=>r12_19) (Rch.leaf ?_)))
  refine Rn.cnd (v:=decide (x13<((l10:Int)))) ⟨c12_79,rfl,by kernel_rfl⟩ (fun h=>?_) (fun h=>?_)
  · replace H:=H.1 (of_decide_eq_true h)
    refine Rn.skip k12_80 (Rn.seq k12_81 (Rn.block k12_82 (Rn.seq k12_83 (Rn.region k12_84 (fun call K=>r12_21) (Rch.ex H fun a7' H=>Rch.ex H fun x8' H=>?_)))))
    refine Rch.cB (fun h=>?_) (fun h=>?_)
    · replace H:=H.1 (of_decide_eq_true h)
      refine Rch.leaf ?_
      exact H ..
    · replace H:=H.2 (of_decide_eq_false h)
      refine Rch.leaf ?_
      exact H ..
  · replace H:=H.2 (of_decide_eq_false h)
    refine Rn.exit k12_85 rfl (Rn.seq k12_86 (Rn.region k12_87 (fun call K=>r12_23) (Rch.leaf (Rn.seq k12_88 (Rn.seq k12_89 (Rn.region k12_90 (fun call K=>r12_24) (Rch.leaf ?_)))))))
    refine Rn.cnd (v:=decide (((l11:Int))<((l2:Int)))) ⟨c12_91,rfl,by kernel_rfl⟩ (fun h=>?_) (fun h=>?_)
    · replace H:=H.1 (of_decide_eq_true h)
      refine Rn.region k12_92 (fun call K=>r12_25) (Rch.ex H fun a9' H=>Rch.ex H fun x10' H=>Rch.call H fun v11' N11' H=>Rch.ex H fun x12' H=>Rch.leaf (Rn.seq k12_93 (Rn.regionD k12_94 (fun call K=>r12_26) (Rch.ex H fun a13' H=>Rch.ex H fun x14' H=>Rch.ex H fun a15' H=>Rch.ex H fun x16' H=>?_))))
      refine Rch.ex H fun a17' H=>Rch.ex H fun x18' H=>Rch.ex H fun a19' H=>Rch.ex H fun M20' H=>Rch.leaf (Rn.region k12_95 (fun call K=>r12_27) (Rch.ex H fun a21' H=>Rch.ex H fun x22' H=>Rch.ex H fun r23' H=>Rch.ex H fun s24' H=>Rch.leaf (Rn.blk ?_)))
      refine Rn.lp ?_
      exact H ..
    · replace H:=H.2 (of_decide_eq_false h)
      refine Rn.skip k12_96 (Rn.seq k12_93 (Rn.regionD k12_94 (fun call K=>r12_26) (Rch.ex H fun a25' H=>Rch.ex H fun x26' H=>Rch.ex H fun a27' H=>Rch.ex H fun x28' H=>Rch.ex H fun a29' H=>Rch.ex H fun x30' H=>Rch.ex H fun a31' H=>Rch.ex H fun M32' H=>Rch.leaf ?_)))
      refine Rn.region k12_95 (fun call K=>r12_27) (Rch.ex H fun a33' H=>Rch.ex H fun x34' H=>Rch.ex H fun r35' H=>Rch.ex H fun s36' H=>Rch.leaf (Rn.blk (Rn.lp ?_)))
      exact H ..
theorem w12_5 {x1:Int} {Y2:Option Addr} {l2 y2:Nat} {x8:Int} {Y10:Option Addr} {l10 y10:Nat} {Y11:Option Addr} {l11 y11:Nat} {Y12:Option Addr} {l12 y12:Nat} {x13:Int} {x66:Bool} {M:Mem} {Q:Value→Mem→Prop} (H :
 ((x66=true→
 ∃r37',appendP Try.prog #[22,22] (.slice Y12 l12 y12) (.slice (some ⟨2*M.nb.size,0,none⟩) 1 1) (M.new (.cells #[.int .i64 x13] 3))=some r37'∧
 ∃s38',asS r37'.1=some s38'∧
 A12_6 x1 Y2 l2 y2 x8 Y10 l10 y10 Y11 l11 y11 s38'.1 s38'.2.1 s38'.2.2 x13 r37'.2 Q)∧
 (x66=false→
 A12_6 x1 Y2 l2 y2 x8 Y10 l10 y10 Y11 l11 y11 Y12 l12 y12 x13 M Q))):
 A12_5 x1 Y2 l2 y2 x8 Y10 l10 y10 Y11 l11 y11 Y12 l12 y12 x13 x66 M Q:=by
  iterate 98 intro _
  refine Rn.cnd (v:=x66) ⟨c12_97,rfl,by kernel_rfl⟩ (fun h=>?_) (fun h=>?_)
  · replace H:=H.1 (h)
    refine Rn.region k12_98 (fun call K=>r12_22) (Rch.ex H fun r37' H=>Rch.ex H fun s38' H=>Rch.leaf (Rn.blk ?_))
    exact H ..
  · replace H:=H.2 (h)
    refine Rn.skip k12_99 (Rn.blk ?_)
    exact H ..
theorem w12_6 {x1:Int} {Y2:Option Addr} {l2 y2:Nat} {x8:Int} {Y10:Option Addr} {l10 y10:Nat} {Y11:Option Addr} {l11 y11:Nat} {Y12:Option Addr} {l12 y12:Nat} {x13:Int} {M:Mem} {Q:Value→Mem→Prop} (H :
 A12_4 x1 Y2 l2 y2 x8 Y10 l10 y10 Y11 l11 y11 Y12 l12 y12 (IntKind.i64.wrap (x13+1)) M Q):
 A12_6 x1 Y2 l2 y2 x8 Y10 l10 y10 Y11 l11 y11 Y12 l12 y12 x13 M Q:=by
  iterate 99 intro _
  refine Rn.region k12_100 (fun call K=>r12_20) (Rch.leaf (Rn.lp ?_))
  exact H ..
end Go.Zt
