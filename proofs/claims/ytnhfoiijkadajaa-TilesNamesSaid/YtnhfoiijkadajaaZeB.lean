/- The functions' walks: for each function and each loop a rule of what it comes to. Printed by zw.py. -/
import Derived.Test.YtnhfoiijkadajaaProg
import Derived.Test.YtnhfoiijkadajaaZeA
set_option linter.unusedVariables false
set_option maxRecDepth 100000
namespace Go.Zt
open Go Go.Sim Go.Proofs
variable {g0 g1 g2 g3 g4 g5 g6 g7 g8 g9 gA gB gC gD gE gF gG gH gI gJ gK gL gM gN gO gP gQ gR gS gT gU gV gW gX gY gZ hA hB hC hD hE hF hG hH hI hJ hK hL hM hN hO hP hQ hR hS hT hU hV hW hX hY hZ h0 h1 h2 h3 h4 h5 h6 h7 h8 h9 jA jB jC jD jE jF jG jH jI jJ jK jL jM jN jO jP jQ jR jS jT jU jV jW jX jY jZ j0 j1 j2 j3 j4 j5 j6 j7 j8 j9 kA kB kC kD kE kF kG kH kI kJ kK kL kM kN kO kP kQ kR kS kT:Value}
noncomputable abbrev P18 (p:List Nat):Code:=subC (codeOf Try.f18) p
noncomputable abbrev O18 (p:List Nat):Array Oper:=opsOf (subC (codeOf Try.f18) p)
theorem b18:Try.prog.funcs[18]?=some Try.f18∧(Orc.tab Try.prog).lookup 18=none:=⟨by kernel_rfl,by kernel_rfl⟩
theorem d18:Try.f18.body=some (P18 []):=by kernel_rfl
theorem t18 {Y0:Option Addr} {l0 y0:Nat} {Y1:Option Addr} {l1 y1:Nat}:#[.slice Y0 l0 y0,.slice Y1 l1 y1] ++ Array.replicate (Try.f18.ntmps-(#[.slice Y0 l0 y0,.slice Y1 l1 y1]:Array Value).size) undef=#[.slice Y0 l0 y0,.slice Y1 l1 y1,undef,undef,undef,undef,undef,undef,undef,undef,undef,undef,undef,undef,undef,undef,undef,undef,undef,undef,undef,undef,undef,undef,undef,undef]:=by kernel_rfl
theorem k18_0:P18 []=.seq (P18 [0]) (P18 [1]):=by kernel_rfl
theorem k18_1:P18 [0]=.region 0 (O18 [0]) false:=by kernel_rfl
theorem r18_0 {M:Mem} {call:CallM} {K:Array Value→Mem→R} :
 opsK Try.prog (fun _=>call) (O18 [0]) (O18 [0]).toList 0 #[g0,g1,g2,g3,g4,g5,g6,g7,g8,g9,gA,gB,gC,gD,gE,gF,gG,gH,gI,gJ,gK,gL,gM,gN,gO,gP] M K=K #[g0,g1,g2,g3,.bool false,g5,g6,g7,g8,g9,gA,gB,gC,gD,gE,gF,gG,gH,gI,gJ,gK,gL,gM,gN,gO,gP] M:=by kernel_rfl
theorem k18_2:P18 [1]=.seq (P18 [1,0]) (P18 [1,1]):=by kernel_rfl
theorem k18_3:P18 [1,0]=.seq (P18 [1,0,0]) (P18 [1,0,1]):=by kernel_rfl
theorem k18_4:P18 [1,0,0]=.region 1 (O18 [1,0,0]) false:=by kernel_rfl
theorem r18_1 {Y0:Option Addr} {l0 y0:Nat} {Y1:Option Addr} {l1 y1:Nat} {M:Mem} {call:CallM} {K:Array Value→Mem→R} :
 opsK Try.prog (fun _=>call) (O18 [1,0,0]) (O18 [1,0,0]).toList 0 #[.slice Y0 l0 y0,.slice Y1 l1 y1,g2,g3,g4,g5,g6,g7,g8,g9,gA,gB,gC,gD,gE,gF,gG,gH,gI,gJ,gK,gL,gM,gN,gO,gP] M K=K #[.slice Y0 l0 y0,.slice Y1 l1 y1,g2,g3,g4,g5,.slice Y0 l0 y0,.int .i64 ((l0:Int)),.slice Y1 l1 y1,.int .i64 ((l1:Int)),.bool (((l0:Int)) != ((l1:Int))),gB,gC,gD,gE,gF,gG,gH,gI,gJ,gK,gL,gM,gN,gO,gP] M:=by kernel_rfl
theorem c18_5:P18 [1,0,1]=.cond (.tmp 10) (P18 [1,0,1,0]) (P18 [1,0,1,1]):=by kernel_rfl
theorem k18_6:P18 [1,0,1,0]=.seq (P18 [1,0,1,0,0]) (P18 [1,0,1,0,1]):=by kernel_rfl
theorem k18_7:P18 [1,0,1,0,0]=.region 2 (O18 [1,0,1,0,0]) false:=by kernel_rfl
theorem r18_2 {M:Mem} {call:CallM} {K:Array Value→Mem→R} :
 opsK Try.prog (fun _=>call) (O18 [1,0,1,0,0]) (O18 [1,0,1,0,0]).toList 0 #[g0,g1,g2,g3,g4,g5,g6,g7,g8,g9,gA,gB,gC,gD,gE,gF,gG,gH,gI,gJ,gK,gL,gM,gN,gO,gP] M K=K #[g0,g1,g2,g3,.bool false,g5,g6,g7,g8,g9,gA,gB,gC,gD,gE,gF,gG,gH,gI,gJ,gK,gL,gM,gN,gO,gP] M:=by kernel_rfl
theorem k18_8:P18 [1,0,1,0,1]=.ret:=by kernel_rfl
theorem e18 {M:Mem}:finish Try.prog Try.f18 #[g0,g1,g2,g3,g4,g5,g6,g7,g8,g9,gA,gB,gC,gD,gE,gF,gG,gH,gI,gJ,gK,gL,gM,gN,gO,gP] M=some (g4,M):=by kernel_rfl
theorem k18_10:P18 [1,0,1,1]=.skip:=by kernel_rfl
theorem k18_11:P18 [1,1]=.seq (P18 [1,1,0]) (P18 [1,1,1]):=by kernel_rfl
theorem k18_12:P18 [1,1,0]=.seq (P18 [1,1,0,0]) (P18 [1,1,0,1]):=by kernel_rfl
theorem k18_13:P18 [1,1,0,0]=.region 3 (O18 [1,1,0,0]) false:=by kernel_rfl
theorem r18_3 {M:Mem} {call:CallM} {K:Array Value→Mem→R} :
 opsK Try.prog (fun _=>call) (O18 [1,1,0,0]) (O18 [1,1,0,0]).toList 0 #[g0,g1,g2,g3,g4,g5,g6,g7,g8,g9,gA,gB,gC,gD,gE,gF,gG,gH,gI,gJ,gK,gL,gM,gN,gO,gP] M K=K #[g0,g1,g2,g3,g4,.int .i64 0,g6,g7,g8,g9,gA,gB,gC,gD,gE,gF,gG,gH,gI,gJ,gK,gL,gM,gN,gO,gP] M:=by kernel_rfl
theorem k18_14:P18 [1,1,0,1]=.block 0 (P18 [1,1,0,1,0]):=by kernel_rfl
theorem k18_15:P18 [1,1,0,1,0]=.loop (P18 [1,1,0,1,0,0]):=by kernel_rfl
theorem k18_16:P18 [1,1,0,1,0,0]=.seq (P18 [1,1,0,1,0,0,0]) (P18 [1,1,0,1,0,0,1]):=by kernel_rfl
theorem k18_17:P18 [1,1,0,1,0,0,0]=.seq (P18 [1,1,0,1,0,0,0,0]) (P18 [1,1,0,1,0,0,0,1]):=by kernel_rfl
theorem k18_18:P18 [1,1,0,1,0,0,0,0]=.region 4 (O18 [1,1,0,1,0,0,0,0]) false:=by kernel_rfl
theorem r18_4 {Y0:Option Addr} {l0 y0:Nat} {x5:Int} {M:Mem} {call:CallM} {K:Array Value→Mem→R} :
 opsK Try.prog (fun _=>call) (O18 [1,1,0,1,0,0,0,0]) (O18 [1,1,0,1,0,0,0,0]).toList 0 #[.slice Y0 l0 y0,g1,g2,g3,g4,.int .i64 x5,g6,g7,g8,g9,gA,gB,gC,gD,gE,gF,gG,gH,gI,gJ,gK,gL,gM,gN,gO,gP] M K=K #[.slice Y0 l0 y0,g1,g2,g3,g4,.int .i64 x5,g6,g7,g8,g9,gA,.int .i64 x5,.slice Y0 l0 y0,.int .i64 ((l0:Int)),.bool (decide (x5<((l0:Int)))),gF,gG,gH,gI,gJ,gK,gL,gM,gN,gO,gP] M:=by kernel_rfl
theorem c18_19:P18 [1,1,0,1,0,0,0,1]=.cond (.tmp 14) (P18 [1,1,0,1,0,0,0,1,0]) (P18 [1,1,0,1,0,0,0,1,1]):=by kernel_rfl
theorem k18_20:P18 [1,1,0,1,0,0,0,1,0]=.skip:=by kernel_rfl
theorem k18_21:P18 [1,1,0,1,0,0,1]=.seq (P18 [1,1,0,1,0,0,1,0]) (P18 [1,1,0,1,0,0,1,1]):=by kernel_rfl
theorem k18_22:P18 [1,1,0,1,0,0,1,0]=.block 1 (P18 [1,1,0,1,0,0,1,0,0]):=by kernel_rfl
theorem k18_23:P18 [1,1,0,1,0,0,1,0,0]=.seq (P18 [1,1,0,1,0,0,1,0,0,0]) (P18 [1,1,0,1,0,0,1,0,0,1]):=by kernel_rfl
theorem k18_24:P18 [1,1,0,1,0,0,1,0,0,0]=.region 6 (O18 [1,1,0,1,0,0,1,0,0,0]) true∧drawOk (O18 [1,1,0,1,0,0,1,0,0,0])=true:=⟨by kernel_rfl,by kernel_rfl⟩
theorem r18_6 {Y0:Option Addr} {l0 y0:Nat} {Y1:Option Addr} {l1 y1:Nat} {x5:Int} {M:Mem} {call:CallM} {K:Array Value→Mem→R} :
    opsI Try.prog (callAt call (O18 [1,1,0,1,0,0,1,0,0,0])) (O18 [1,1,0,1,0,0,1,0,0,0]) (ordOf (O18 [1,1,0,1,0,0,1,0,0,0])) [] #[.slice Y0 l0 y0,.slice Y1 l1 y1,g2,g3,g4,.int .i64 x5,g6,g7,g8,g9,gA,gB,gC,gD,gE,gF,gG,gH,gI,gJ,gK,gL,gM,gN,gO,gP] M K=(idxA Y0 l0 4 x5).bind fun a_1=>(M.intAt .i64 a_1.block a_1.off).bind fun x_2=>(M.intAt .i64 a_1.block (a_1.off+1)).bind fun x_3=>(M.intAt .i64 a_1.block (a_1.off+2)).bind fun x_4=>(M.intAt .i64 a_1.block (a_1.off+3)).bind fun x_5=>(idxA Y1 l1 4 x5).bind fun a_6=>(M.intAt .i64 a_6.block a_6.off).bind fun x_7=>(M.intAt .i64 a_6.block (a_6.off+1)).bind fun x_8=>(M.intAt .i64 a_6.block (a_6.off+2)).bind fun x_9=>(M.intAt .i64 a_6.block (a_6.off+3)).bind fun x_10=>(binV Try.prog .neq 35 35 (.agg #[.int .i64 x_2,.int .i64 x_3,.int .i64 x_4,.int .i64 x_5]) (.agg #[.int .i64 x_7,.int .i64 x_8,.int .i64 x_9,.int .i64 x_10])).bind fun v_11=>(asB v_11).bind fun b_12=>K #[.slice Y0 l0 y0,.slice Y1 l1 y1,g2,g3,g4,.int .i64 x5,g6,g7,g8,g9,gA,gB,gC,gD,gE,gF,gG,.slice Y0 l0 y0,.int .i64 x5,.pointer (some a_1),.agg #[.int .i64 x_2,.int .i64 x_3,.int .i64 x_4,.int .i64 x_5],.slice Y1 l1 y1,.int .i64 x5,.pointer (some a_6),.agg #[.int .i64 x_7,.int .i64 x_8,.int .i64 x_9,.int .i64 x_10],.bool b_12] M:=by kernel_rfl
theorem c18_25:P18 [1,1,0,1,0,0,1,0,0,1]=.cond (.tmp 25) (P18 [1,1,0,1,0,0,1,0,0,1,0]) (P18 [1,1,0,1,0,0,1,0,0,1,1]):=by kernel_rfl
theorem k18_26:P18 [1,1,0,1,0,0,1,0,0,1,0]=.seq (P18 [1,1,0,1,0,0,1,0,0,1,0,0]) (P18 [1,1,0,1,0,0,1,0,0,1,0,1]):=by kernel_rfl
theorem k18_27:P18 [1,1,0,1,0,0,1,0,0,1,0,0]=.region 7 (O18 [1,1,0,1,0,0,1,0,0,1,0,0]) false:=by kernel_rfl
theorem r18_7 {M:Mem} {call:CallM} {K:Array Value→Mem→R} :
 opsK Try.prog (fun _=>call) (O18 [1,1,0,1,0,0,1,0,0,1,0,0]) (O18 [1,1,0,1,0,0,1,0,0,1,0,0]).toList 0 #[g0,g1,g2,g3,g4,g5,g6,g7,g8,g9,gA,gB,gC,gD,gE,gF,gG,gH,gI,gJ,gK,gL,gM,gN,gO,gP] M K=K #[g0,g1,g2,g3,.bool false,g5,g6,g7,g8,g9,gA,gB,gC,gD,gE,gF,gG,gH,gI,gJ,gK,gL,gM,gN,gO,gP] M:=by kernel_rfl
theorem k18_28:P18 [1,1,0,1,0,0,1,0,0,1,0,1]=.ret:=by kernel_rfl
theorem k18_29:P18 [1,1,0,1,0,0,1,0,0,1,1]=.skip:=by kernel_rfl
theorem k18_30:P18 [1,1,0,1,0,0,1,1]=.region 5 (O18 [1,1,0,1,0,0,1,1]) false:=by kernel_rfl
theorem r18_5 {x5:Int} {M:Mem} {call:CallM} {K:Array Value→Mem→R} :
 opsK Try.prog (fun _=>call) (O18 [1,1,0,1,0,0,1,1]) (O18 [1,1,0,1,0,0,1,1]).toList 0 #[g0,g1,g2,g3,g4,.int .i64 x5,g6,g7,g8,g9,gA,gB,gC,gD,gE,gF,gG,gH,gI,gJ,gK,gL,gM,gN,gO,gP] M K=K #[g0,g1,g2,g3,g4,.int .i64 (IntKind.i64.wrap (x5+1)),g6,g7,g8,g9,gA,gB,gC,gD,gE,.int .i64 x5,.int .i64 (IntKind.i64.wrap (x5+1)),gH,gI,gJ,gK,gL,gM,gN,gO,gP] M:=by kernel_rfl
theorem k18_31:P18 [1,1,0,1,0,0,0,1,1]=.exit 0:=by kernel_rfl
theorem k18_32:P18 [1,1,1]=.seq (P18 [1,1,1,0]) (P18 [1,1,1,1]):=by kernel_rfl
theorem k18_33:P18 [1,1,1,0]=.region 8 (O18 [1,1,1,0]) false:=by kernel_rfl
theorem r18_8 {M:Mem} {call:CallM} {K:Array Value→Mem→R} :
 opsK Try.prog (fun _=>call) (O18 [1,1,1,0]) (O18 [1,1,1,0]).toList 0 #[g0,g1,g2,g3,g4,g5,g6,g7,g8,g9,gA,gB,gC,gD,gE,gF,gG,gH,gI,gJ,gK,gL,gM,gN,gO,gP] M K=K #[g0,g1,g2,g3,.bool true,g5,g6,g7,g8,g9,gA,gB,gC,gD,gE,gF,gG,gH,gI,gJ,gK,gL,gM,gN,gO,gP] M:=by kernel_rfl
theorem k18_34:P18 [1,1,1,1]=.ret:=by kernel_rfl
noncomputable def S18_1:List Item:=[.code (P18 [1,1,0,1,0,0]),.inLoop (P18 [1,1,0,1,0,0]),.inBlock 0,.code (P18 [1,1,1])]
def A18_1 (Y0:Option Addr) (l0 y0:Nat) (Y1:Option Addr) (l1 y1:Nat) (x5:Int) (M:Mem) (Q:Value→Mem→Prop):Prop:=∀ (g2 g3 g4 g6 g7 g8 g9 gA gB gC gD gE gF gG gH gI gJ gK gL gM gN gO gP:Value),Rn Try.prog Try.f18 S18_1 #[.slice Y0 l0 y0,.slice Y1 l1 y1,g2,g3,g4,.int .i64 x5,g6,g7,g8,g9,gA,gB,gC,gD,gE,gF,gG,gH,gI,gJ,gK,gL,gM,gN,gO,gP] M Q
theorem w18_0 {Y0:Option Addr} {l0 y0:Nat} {Y1:Option Addr} {l1 y1:Nat} {M:Mem} {Q:Value→Mem→Prop} (H :
 ((((l0:Int))≠((l1:Int))→
 Q (.bool false) M)∧
 (((l0:Int))=((l1:Int))→
 A18_1 Y0 l0 y0 Y1 l1 y1 0 M Q))):
 Cn Try.prog 18 #[.slice Y0 l0 y0,.slice Y1 l1 y1] M Q:=by
  refine Cn.of b18 d18 t18 ?_
  refine Rn.seq k18_0 (Rn.region k18_1 (fun call K=>r18_0) (Rch.leaf (Rn.seq k18_2 (Rn.seq k18_3 (Rn.region k18_4 (fun call K=>r18_1) (Rch.leaf ?_))))))
  refine Rn.cnd (v:=((l0:Int)) != ((l1:Int))) ⟨c18_5,rfl,by kernel_rfl⟩ (fun h=>?_) (fun h=>?_)
  · replace H:=H.1 (ne_of_bneT h)
    refine Rn.seq k18_6 (Rn.region k18_7 (fun call K=>r18_2) (Rch.leaf ?_))
    exact Rn.ret k18_8 e18 H
  · replace H:=H.2 (eq_of_bneF h)
    refine Rn.skip k18_10 (Rn.seq k18_11 (Rn.seq k18_12 (Rn.region k18_13 (fun call K=>r18_3) (Rch.leaf (Rn.block k18_14 (Rn.loop k18_15 ?_))))))
    exact H ..
theorem w18_1 {Y0:Option Addr} {l0 y0:Nat} {Y1:Option Addr} {l1 y1:Nat} {x5:Int} {M:Mem} {Q:Value→Mem→Prop} (H :
 ((x5<((l0:Int))→
 ∃a1',idxA Y0 l0 4 x5=some a1'∧
 ∃x2',M.intAt .i64 a1'.block a1'.off=some x2'∧
 ∃x3',M.intAt .i64 a1'.block (a1'.off+1)=some x3'∧
 ∃x4',M.intAt .i64 a1'.block (a1'.off+2)=some x4'∧
 ∃x5',M.intAt .i64 a1'.block (a1'.off+3)=some x5'∧
 ∃a6',idxA Y1 l1 4 x5=some a6'∧
 ∃x7',M.intAt .i64 a6'.block a6'.off=some x7'∧
 ∃x8',M.intAt .i64 a6'.block (a6'.off+1)=some x8'∧
 ∃x9',M.intAt .i64 a6'.block (a6'.off+2)=some x9'∧
 ∃x10',M.intAt .i64 a6'.block (a6'.off+3)=some x10'∧
 ∃v11',binV Try.prog .neq 35 35 (.agg #[.int .i64 x2',.int .i64 x3',.int .i64 x4',.int .i64 x5']) (.agg #[.int .i64 x7',.int .i64 x8',.int .i64 x9',.int .i64 x10'])=some v11'∧
 ∃b12',asB v11'=some b12'∧
 ((b12'=true→
 Q (.bool false) M)∧
 (b12'=false→
 A18_1 Y0 l0 y0 Y1 l1 y1 (IntKind.i64.wrap (x5+1)) M Q)))∧
 (¬(x5<((l0:Int)))→
 Q (.bool true) M))):
 A18_1 Y0 l0 y0 Y1 l1 y1 x5 M Q:=by
  iterate 23 intro _
  refine Rn.seq k18_16 (Rn.seq k18_17 (Rn.region k18_18 (fun call K=>r18_4) (Rch.leaf ?_)))
  refine Rn.cnd (v:=decide (x5<((l0:Int)))) ⟨c18_19,rfl,by kernel_rfl⟩ (fun h=>?_) (fun h=>?_)
  · replace H:=H.1 (of_decide_eq_true h)
    refine Rn.skip k18_20 (Rn.seq k18_21 (Rn.block k18_22 (Rn.seq k18_23 (Rn.regionD k18_24 (fun call K=>r18_6) (Rch.ex H fun a1' H=>Rch.ex H fun x2' H=>Rch.ex H fun x3' H=>Rch.ex H fun x4' H=>Rch.ex H fun x5' H=>Rch.ex H fun a6' H=>Rch.ex H fun x7' H=>?_)))))
    refine Rch.ex H fun x8' H=>Rch.ex H fun x9' H=>Rch.ex H fun x10' H=>Rch.ex H fun v11' H=>Rch.ex H fun b12' H=>Rch.leaf ?_
    refine Rn.cnd (v:=b12') ⟨c18_25,rfl,by kernel_rfl⟩ (fun h=>?_) (fun h=>?_)
    · replace H:=H.1 (h)
      refine Rn.seq k18_26 (Rn.region k18_27 (fun call K=>r18_7) (Rch.leaf ?_))
      exact Rn.ret k18_28 e18 H
    · replace H:=H.2 (h)
      refine Rn.skip k18_29 (Rn.blk (Rn.region k18_30 (fun call K=>r18_5) (Rch.leaf (Rn.lp ?_))))
      exact H ..
  · replace H:=H.2 (of_decide_eq_false h)
    refine Rn.exit k18_31 rfl (Rn.seq k18_32 (Rn.region k18_33 (fun call K=>r18_8) (Rch.leaf ?_)))
    exact Rn.ret k18_34 e18 H
noncomputable abbrev P35 (p:List Nat):Code:=subC (codeOf Try.f35) p
noncomputable abbrev O35 (p:List Nat):Array Oper:=opsOf (subC (codeOf Try.f35) p)
theorem b35:Try.prog.funcs[35]?=some Try.f35∧(Orc.tab Try.prog).lookup 35=none:=⟨by kernel_rfl,by kernel_rfl⟩
theorem d35:Try.f35.body=some (P35 []):=by kernel_rfl
theorem t35 {x0 x1 x2:Int}:#[.int .i64 x0,.int .i64 x1,.int .i64 x2] ++ Array.replicate (Try.f35.ntmps-(#[.int .i64 x0,.int .i64 x1,.int .i64 x2]:Array Value).size) undef=#[.int .i64 x0,.int .i64 x1,.int .i64 x2,undef,undef,undef,undef,undef,undef,undef,undef,undef,undef,undef,undef]:=by kernel_rfl
theorem k35_0:P35 []=.seq (P35 [0]) (P35 [1]):=by kernel_rfl
theorem k35_1:P35 [0]=.region 0 (O35 [0]) false:=by kernel_rfl
theorem r35_0 {M:Mem} {call:CallM} {K:Array Value→Mem→R} :
 opsK Try.prog (fun _=>call) (O35 [0]) (O35 [0]).toList 0 #[g0,g1,g2,g3,g4,g5,g6,g7,g8,g9,gA,gB,gC,gD,gE] M K=K #[g0,g1,g2,g3,g4,g5,.bool false,g7,g8,g9,gA,gB,gC,gD,gE] M:=by kernel_rfl
theorem k35_2:P35 [1]=.seq (P35 [1,0]) (P35 [1,1]):=by kernel_rfl
theorem k35_3:P35 [1,0]=.region 1 (O35 [1,0]) false:=by kernel_rfl
theorem r35_1 {x0 x1 x2:Int} {M:Mem} {call:CallM} {K:Array Value→Mem→R} :
 opsK Try.prog (fun _=>call) (O35 [1,0]) (O35 [1,0]).toList 0 #[.int .i64 x0,.int .i64 x1,.int .i64 x2,g3,g4,g5,g6,g7,g8,g9,gA,gB,gC,gD,gE] M K=withK (fun w6 w10 w11 w12 w13 w14 M=>K #[.int .i64 x0,.int .i64 x1,.int .i64 x2,g3,g4,g5,w6,.int .i64 x0,.int .i64 x1,.bool (decide (x0≥x1)),w10,w11,w12,w13,w14] M) fun k=>cond (decide (x0≥x1)) (k (.bool (decide (x0≤x2))) (.bool true) (.int .i64 x0) (.int .i64 x2) (.bool (decide (x0≤x2))) (.bool (decide (x0≤x2))) M) (k (.bool false) (.bool false) undef undef undef (.bool false) M):=by kernel_rfl
theorem k35_4:P35 [1,1]=.ret:=by kernel_rfl
theorem e35 {M:Mem}:finish Try.prog Try.f35 #[g0,g1,g2,g3,g4,g5,g6,g7,g8,g9,gA,gB,gC,gD,gE] M=some (g6,M):=by kernel_rfl
theorem w35_0 {x0 x1 x2:Int} {M:Mem} {Q:Value→Mem→Prop} (H :
 ((x0≥x1→
 Q (.bool (decide (x0≤x2))) M)∧
 (¬(x0≥x1)→
 Q (.bool false) M))):
 Cn Try.prog 35 #[.int .i64 x0,.int .i64 x1,.int .i64 x2] M Q:=by
  refine Cn.of b35 d35 t35 ?_
  refine Rn.seq k35_0 (Rn.region k35_1 (fun call K=>r35_0) (Rch.leaf (Rn.seq k35_2 (Rn.region k35_3 (fun call K=>r35_1) ?_))))
  refine Rch.cB (fun h=>?_) (fun h=>?_)
  · replace H:=H.1 (of_decide_eq_true h)
    refine Rch.leaf ?_
    exact Rn.ret k35_4 e35 H
  · replace H:=H.2 (of_decide_eq_false h)
    refine Rch.leaf ?_
    exact Rn.ret k35_4 e35 H
noncomputable abbrev P50 (p:List Nat):Code:=subC (codeOf Try.f50) p
noncomputable abbrev O50 (p:List Nat):Array Oper:=opsOf (subC (codeOf Try.f50) p)
theorem b50:Try.prog.funcs[50]?=some Try.f50∧(Orc.tab Try.prog).lookup 50=none:=⟨by kernel_rfl,by kernel_rfl⟩
theorem d50:Try.f50.body=some (P50 []):=by kernel_rfl
theorem t50 {x0:Int}:#[.int .i64 x0] ++ Array.replicate (Try.f50.ntmps-(#[.int .i64 x0]:Array Value).size) undef=#[.int .i64 x0,undef,undef,undef,undef,undef,undef]:=by kernel_rfl
theorem k50_0:P50 []=.seq (P50 [0]) (P50 [1]):=by kernel_rfl
theorem k50_1:P50 [0]=.region 0 (O50 [0]) false:=by kernel_rfl
theorem r50_0 {M:Mem} {call:CallM} {K:Array Value→Mem→R} :
 opsK Try.prog (fun _=>call) (O50 [0]) (O50 [0]).toList 0 #[g0,g1,g2,g3,g4,g5,g6] M K=K #[g0,g1,.int .i64 0,g3,g4,g5,g6] M:=by kernel_rfl
theorem k50_2:P50 [1]=.seq (P50 [1,0]) (P50 [1,1]):=by kernel_rfl
theorem k50_3:P50 [1,0]=.region 1 (O50 [1,0]) false:=by kernel_rfl
theorem r50_1 {x0:Int} {M:Mem} {call:CallM} {K:Array Value→Mem→R} :
 opsK Try.prog (fun _=>call) (O50 [1,0]) (O50 [1,0]).toList 0 #[.int .i64 x0,g1,g2,g3,g4,g5,g6] M K=K #[.int .i64 x0,g1,.int .i64 (IntKind.i64.wrap ((IntKind.i64.wrap ((IntKind.i64.wrap (x0+64))-1)).tdiv 64)),.int .i64 x0,.int .i64 (IntKind.i64.wrap (x0+64)),.int .i64 (IntKind.i64.wrap ((IntKind.i64.wrap (x0+64))-1)),.int .i64 (IntKind.i64.wrap ((IntKind.i64.wrap ((IntKind.i64.wrap (x0+64))-1)).tdiv 64))] M:=by kernel_rfl
theorem k50_4:P50 [1,1]=.ret:=by kernel_rfl
theorem e50 {M:Mem}:finish Try.prog Try.f50 #[g0,g1,g2,g3,g4,g5,g6] M=some (g2,M):=by kernel_rfl
theorem w50_0 {x0:Int} {M:Mem} {Q:Value→Mem→Prop} (H :
 Q (.int .i64 (IntKind.i64.wrap ((IntKind.i64.wrap ((IntKind.i64.wrap (x0+64))-1)).tdiv 64))) M):
 Cn Try.prog 50 #[.int .i64 x0] M Q:=by
  refine Cn.of b50 d50 t50 ?_
  refine Rn.seq k50_0 (Rn.region k50_1 (fun call K=>r50_0) (Rch.leaf (Rn.seq k50_2 (Rn.region k50_3 (fun call K=>r50_1) (Rch.leaf ?_)))))
  exact Rn.ret k50_4 e50 H
noncomputable abbrev P31 (p:List Nat):Code:=subC (codeOf Try.f31) p
noncomputable abbrev O31 (p:List Nat):Array Oper:=opsOf (subC (codeOf Try.f31) p)
theorem b31:Try.prog.funcs[31]?=some Try.f31∧(Orc.tab Try.prog).lookup 31=none:=⟨by kernel_rfl,by kernel_rfl⟩
theorem d31:Try.f31.body=some (P31 []):=by kernel_rfl
theorem t31 {x0 x1:Int}:#[.int .i64 x0,.int .i64 x1] ++ Array.replicate (Try.f31.ntmps-(#[.int .i64 x0,.int .i64 x1]:Array Value).size) undef=#[.int .i64 x0,.int .i64 x1,undef,undef,undef,undef,undef,undef,undef,undef,undef,undef,undef,undef,undef,undef,undef,undef,undef,undef,undef,undef,undef,undef,undef,undef,undef,undef,undef,undef,undef,undef,undef,undef,undef,undef,undef,undef,undef,undef,undef,undef,undef,undef,undef,undef,undef,undef,undef,undef,undef,undef,undef,undef]:=by kernel_rfl
theorem k31_0:P31 []=.seq (P31 [0]) (P31 [1]):=by kernel_rfl
theorem k31_1:P31 [0]=.region 0 (O31 [0]) false:=by kernel_rfl
theorem r31_0 {M:Mem} {call:CallM} {K:Array Value→Mem→R} :
 opsK Try.prog (fun _=>call) (O31 [0]) (O31 [0]).toList 0 #[g0,g1,g2,g3,g4,g5,g6,g7,g8,g9,gA,gB,gC,gD,gE,gF,gG,gH,gI,gJ,gK,gL,gM,gN,gO,gP,gQ,gR,gS,gT,gU,gV,gW,gX,gY,gZ,hA,hB,hC,hD,hE,hF,hG,hH,hI,hJ,hK,hL,hM,hN,hO,hP,hQ,hR] M K=K #[g0,g1,g2,g3,.slice none 0 0,.bool false,g6,g7,g8,g9,gA,gB,gC,gD,gE,gF,gG,gH,gI,gJ,gK,gL,gM,gN,gO,gP,gQ,gR,gS,gT,gU,gV,gW,gX,gY,gZ,hA,hB,hC,hD,hE,hF,hG,hH,hI,hJ,hK,hL,hM,hN,hO,hP,hQ,hR] M:=by kernel_rfl
theorem k31_2:P31 [1]=.seq (P31 [1,0]) (P31 [1,1]):=by kernel_rfl
theorem k31_3:P31 [1,0]=.seq (P31 [1,0,0]) (P31 [1,0,1]):=by kernel_rfl
theorem k31_5:P31 [1,0,0]=.region 1 (O31 [1,0,0]) true∧(!true || drawOk (O31 [1,0,0]))=true:=⟨by kernel_rfl,by kernel_rfl⟩
theorem r31_1p0 {x0:Int} {M:Mem} {call:CallM} {K:Array Value→Mem→R} :
 segK Try.prog true call (O31 [1,0,0]) 0 9 #[.int .i64 x0,g1,g2,g3,g4,g5,g6,g7,g8,g9,gA,gB,gC,gD,gE,gF,gG,gH,gI,gJ,gK,gL,gM,gN,gO,gP,gQ,gR,gS,gT,gU,gV,gW,gX,gY,gZ,hA,hB,hC,hD,hE,hF,hG,hH,hI,hJ,hK,hL,hM,hN,hO,hP,hQ,hR] M K=withK (fun w10 w11 w12 w13 w14 w15 w16 w17 M=>K #[.int .i64 x0,g1,g2,g3,g4,g5,g6,g7,g8,.int .i64 x0,w10,w11,w12,w13,w14,w15,w16,w17,gI,gJ,gK,gL,gM,gN,gO,gP,gQ,gR,gS,gT,gU,gV,gW,gX,gY,gZ,hA,hB,hC,hD,hE,hF,hG,hH,hI,hJ,hK,hL,hM,hN,hO,hP,hQ,hR] M) fun k=>(call 35 #[.int .i64 x0,.int .i64 16,.int .i64 256] M).bind fun r_1=>(asB r_1.1).bind fun b_2=>cond (!b_2) (k (.bool b_2) (.bool (!b_2)) (.bool true) undef undef undef (.bool true) (.bool true) r_1.2) (k (.bool b_2) (.bool (!b_2)) (.bool false) (.int .i64 x0) (.int .i64 (x0.tmod 2)) (.bool ((x0.tmod 2) != 0)) (.bool ((x0.tmod 2) != 0)) (.bool ((x0.tmod 2) != 0)) r_1.2):=by kernel_rfl
theorem r31_1p9 {x1:Int} {x17:Bool} {M:Mem} {call:CallM} {K:Array Value→Mem→R} :
 segK Try.prog true call (O31 [1,0,0]) 9 5 #[g0,.int .i64 x1,g2,g3,g4,g5,g6,g7,g8,g9,gA,gB,gC,gD,gE,gF,gG,.bool x17,gI,gJ,gK,gL,gM,gN,gO,gP,gQ,gR,gS,gT,gU,gV,gW,gX,gY,gZ,hA,hB,hC,hD,hE,hF,hG,hH,hI,hJ,hK,hL,hM,hN,hO,hP,hQ,hR] M K=withK (fun w17 w18 w19 w20 w21 w22 M=>K #[g0,.int .i64 x1,g2,g3,g4,g5,g6,g7,g8,g9,gA,gB,gC,gD,gE,gF,gG,w17,w18,w19,w20,w21,w22,gN,gO,gP,gQ,gR,gS,gT,gU,gV,gW,gX,gY,gZ,hA,hB,hC,hD,hE,hF,hG,hH,hI,hJ,hK,hL,hM,hN,hO,hP,hQ,hR] M) fun k=>cond x17 (k (.bool true) undef undef undef (.bool true) (.bool true) M) ((call 35 #[.int .i64 x1,.int .i64 0,.int .i64 2] M).bind fun r_1=>(asB r_1.1).bind fun b_2=>k (.bool false) (.int .i64 x1) (.bool b_2) (.bool (!b_2)) (.bool (!b_2)) (.bool (!b_2)) r_1.2):=by kernel_rfl
theorem r31_1p14 {x0 x1:Int} {x22:Bool} {M:Mem} {call:CallM} {K:Array Value→Mem→R} :
 segK Try.prog true call (O31 [1,0,0]) 14 6 #[.int .i64 x0,.int .i64 x1,g2,g3,g4,g5,g6,g7,g8,g9,gA,gB,gC,gD,gE,gF,gG,gH,gI,gJ,gK,gL,.bool x22,gN,gO,gP,gQ,gR,gS,gT,gU,gV,gW,gX,gY,gZ,hA,hB,hC,hD,hE,hF,hG,hH,hI,hJ,hK,hL,hM,hN,hO,hP,hQ,hR] M K=withK (fun w22 w23 w24 w25 w26 w27 w28 M=>K #[.int .i64 x0,.int .i64 x1,g2,g3,g4,g5,g6,g7,g8,g9,gA,gB,gC,gD,gE,gF,gG,gH,gI,gJ,gK,gL,w22,w23,w24,w25,w26,w27,w28,gT,gU,gV,gW,gX,gY,gZ,hA,hB,hC,hD,hE,hF,hG,hH,hI,hJ,hK,hL,hM,hN,hO,hP,hQ,hR] M) fun k=>cond x22 (k (.bool true) undef undef undef undef undef (.bool true) M) ((binV Try.prog .shl 3 3 (.int .i64 1) (.int .i64 x1)).bind fun v_1=>(asI .i64 v_1).bind fun x_2=>(call 50 #[.int .i64 x0] M).bind fun r_3=>(asI .i64 r_3.1).bind fun x_4=>k (.bool false) (.int .i64 x1) (.int .i64 x_2) (.int .i64 x0) (.int .i64 x_4) (.bool (decide (x_2>x_4))) (.bool (decide (x_2>x_4))) r_3.2):=by kernel_rfl
theorem c31_6:P31 [1,0,1]=.cond (.tmp 28) (P31 [1,0,1,0]) (P31 [1,0,1,1]):=by kernel_rfl
theorem k31_7:P31 [1,0,1,0]=.seq (P31 [1,0,1,0,0]) (P31 [1,0,1,0,1]):=by kernel_rfl
theorem k31_8:P31 [1,0,1,0,0]=.region 2 (O31 [1,0,1,0,0]) false:=by kernel_rfl
theorem r31_2 {M:Mem} {call:CallM} {K:Array Value→Mem→R} :
 opsK Try.prog (fun _=>call) (O31 [1,0,1,0,0]) (O31 [1,0,1,0,0]).toList 0 #[g0,g1,g2,g3,g4,g5,g6,g7,g8,g9,gA,gB,gC,gD,gE,gF,gG,gH,gI,gJ,gK,gL,gM,gN,gO,gP,gQ,gR,gS,gT,gU,gV,gW,gX,gY,gZ,hA,hB,hC,hD,hE,hF,hG,hH,hI,hJ,hK,hL,hM,hN,hO,hP,hQ,hR] M K=K #[g0,g1,g2,g3,.slice none 0 0,.bool false,g6,g7,g8,g9,gA,gB,gC,gD,gE,gF,gG,gH,gI,gJ,gK,gL,gM,gN,gO,gP,gQ,gR,gS,gT,gU,gV,gW,gX,gY,gZ,hA,hB,hC,hD,hE,hF,hG,hH,hI,hJ,hK,hL,hM,hN,hO,hP,hQ,hR] M:=by kernel_rfl
theorem k31_9:P31 [1,0,1,0,1]=.ret:=by kernel_rfl
theorem e31 {M:Mem}:finish Try.prog Try.f31 #[g0,g1,g2,g3,g4,g5,g6,g7,g8,g9,gA,gB,gC,gD,gE,gF,gG,gH,gI,gJ,gK,gL,gM,gN,gO,gP,gQ,gR,gS,gT,gU,gV,gW,gX,gY,gZ,hA,hB,hC,hD,hE,hF,hG,hH,hI,hJ,hK,hL,hM,hN,hO,hP,hQ,hR] M=some (.tuple #[g4,g5],M):=by kernel_rfl
theorem k31_11:P31 [1,0,1,1]=.skip:=by kernel_rfl
theorem k31_12:P31 [1,1]=.seq (P31 [1,1,0]) (P31 [1,1,1]):=by kernel_rfl
theorem k31_13:P31 [1,1,0]=.region 3 (O31 [1,1,0]) false:=by kernel_rfl
theorem r31_3 {x0:Int} {M:Mem} {call:CallM} {K:Array Value→Mem→R} :
 opsK Try.prog (fun _=>call) (O31 [1,1,0]) (O31 [1,1,0]).toList 0 #[.int .i64 x0,g1,g2,g3,g4,g5,g6,g7,g8,g9,gA,gB,gC,gD,gE,gF,gG,gH,gI,gJ,gK,gL,gM,gN,gO,gP,gQ,gR,gS,gT,gU,gV,gW,gX,gY,gZ,hA,hB,hC,hD,hE,hF,hG,hH,hI,hJ,hK,hL,hM,hN,hO,hP,hQ,hR] M K=K #[.int .i64 x0,g1,g2,g3,g4,g5,.int .i64 (IntKind.i64.wrap ((IntKind.i64.wrap ((IntKind.i64.wrap ((IntKind.i64.wrap (x0+8))-1)).tdiv 8))*8)),g7,g8,g9,gA,gB,gC,gD,gE,gF,gG,gH,gI,gJ,gK,gL,gM,gN,gO,gP,gQ,gR,gS,.int .i64 x0,.int .i64 (IntKind.i64.wrap (x0+8)),.int .i64 (IntKind.i64.wrap ((IntKind.i64.wrap (x0+8))-1)),.int .i64 (IntKind.i64.wrap ((IntKind.i64.wrap ((IntKind.i64.wrap (x0+8))-1)).tdiv 8)),.int .i64 (IntKind.i64.wrap ((IntKind.i64.wrap ((IntKind.i64.wrap ((IntKind.i64.wrap (x0+8))-1)).tdiv 8))*8)),gY,gZ,hA,hB,hC,hD,hE,hF,hG,hH,hI,hJ,hK,hL,hM,hN,hO,hP,hQ,hR] M:=by kernel_rfl
theorem k31_14:P31 [1,1,1]=.seq (P31 [1,1,1,0]) (P31 [1,1,1,1]):=by kernel_rfl
theorem k31_15:P31 [1,1,1,0]=.region 4 (O31 [1,1,1,0]) false:=by kernel_rfl
theorem r31_4 {M:Mem} {call:CallM} {K:Array Value→Mem→R} :
 opsK Try.prog (fun _=>call) (O31 [1,1,1,0]) (O31 [1,1,1,0]).toList 0 #[g0,g1,g2,g3,g4,g5,g6,g7,g8,g9,gA,gB,gC,gD,gE,gF,gG,gH,gI,gJ,gK,gL,gM,gN,gO,gP,gQ,gR,gS,gT,gU,gV,gW,gX,gY,gZ,hA,hB,hC,hD,hE,hF,hG,hH,hI,hJ,hK,hL,hM,hN,hO,hP,hQ,hR] M K=K #[g0,g1,g2,g3,g4,g5,g6,.slice none 0 0,g8,g9,gA,gB,gC,gD,gE,gF,gG,gH,gI,gJ,gK,gL,gM,gN,gO,gP,gQ,gR,gS,gT,gU,gV,gW,gX,gY,gZ,hA,hB,hC,hD,hE,hF,hG,hH,hI,hJ,hK,hL,hM,hN,hO,hP,hQ,hR] M:=by kernel_rfl
theorem k31_16:P31 [1,1,1,1]=.seq (P31 [1,1,1,1,0]) (P31 [1,1,1,1,1]):=by kernel_rfl
theorem k31_17:P31 [1,1,1,1,0]=.seq (P31 [1,1,1,1,0,0]) (P31 [1,1,1,1,0,1]):=by kernel_rfl
theorem k31_18:P31 [1,1,1,1,0,0]=.region 5 (O31 [1,1,1,1,0,0]) false:=by kernel_rfl
theorem r31_5 {x1:Int} {M:Mem} {call:CallM} {K:Array Value→Mem→R} :
 opsK Try.prog (fun _=>call) (O31 [1,1,1,1,0,0]) (O31 [1,1,1,1,0,0]).toList 0 #[g0,.int .i64 x1,g2,g3,g4,g5,g6,g7,g8,g9,gA,gB,gC,gD,gE,gF,gG,gH,gI,gJ,gK,gL,gM,gN,gO,gP,gQ,gR,gS,gT,gU,gV,gW,gX,gY,gZ,hA,hB,hC,hD,hE,hF,hG,hH,hI,hJ,hK,hL,hM,hN,hO,hP,hQ,hR] M K=(binV Try.prog .shl 3 3 (.int .i64 1) (.int .i64 x1)).bind fun v_1=>(asI .i64 v_1).bind fun x_2=>K #[g0,.int .i64 x1,g2,g3,g4,g5,g6,g7,g8,g9,gA,gB,gC,gD,gE,gF,gG,gH,gI,gJ,gK,gL,gM,gN,gO,gP,gQ,gR,gS,gT,gU,gV,gW,gX,.int .i64 x1,.int .i64 x_2,.int .i64 (IntKind.i64.wrap (x_2+1)),.int .i64 0,hC,hD,hE,hF,hG,hH,hI,hJ,hK,hL,hM,hN,hO,hP,hQ,hR] M:=by kernel_rfl
theorem k31_19:P31 [1,1,1,1,0,1]=.block 0 (P31 [1,1,1,1,0,1,0]):=by kernel_rfl
theorem k31_20:P31 [1,1,1,1,0,1,0]=.loop (P31 [1,1,1,1,0,1,0,0]):=by kernel_rfl
theorem k31_21:P31 [1,1,1,1,0,1,0,0]=.seq (P31 [1,1,1,1,0,1,0,0,0]) (P31 [1,1,1,1,0,1,0,0,1]):=by kernel_rfl
theorem k31_22:P31 [1,1,1,1,0,1,0,0,0]=.region 6 (O31 [1,1,1,1,0,1,0,0,0]) false:=by kernel_rfl
theorem r31_6 {x36 x37:Int} {M:Mem} {call:CallM} {K:Array Value→Mem→R} :
 opsK Try.prog (fun _=>call) (O31 [1,1,1,1,0,1,0,0,0]) (O31 [1,1,1,1,0,1,0,0,0]).toList 0 #[g0,g1,g2,g3,g4,g5,g6,g7,g8,g9,gA,gB,gC,gD,gE,gF,gG,gH,gI,gJ,gK,gL,gM,gN,gO,gP,gQ,gR,gS,gT,gU,gV,gW,gX,gY,gZ,.int .i64 x36,.int .i64 x37,hC,hD,hE,hF,hG,hH,hI,hJ,hK,hL,hM,hN,hO,hP,hQ,hR] M K=K #[g0,g1,g2,g3,g4,g5,g6,g7,g8,g9,gA,gB,gC,gD,gE,gF,gG,gH,gI,gJ,gK,gL,gM,gN,gO,gP,gQ,gR,gS,gT,gU,gV,gW,gX,gY,gZ,.int .i64 x36,.int .i64 x37,.bool (decide (x37<x36)),hD,hE,hF,hG,hH,hI,hJ,hK,hL,hM,hN,hO,hP,hQ,hR] M:=by kernel_rfl
theorem k31_23:P31 [1,1,1,1,0,1,0,0,1]=.seq (P31 [1,1,1,1,0,1,0,0,1,0]) (P31 [1,1,1,1,0,1,0,0,1,1]):=by kernel_rfl
theorem c31_24:P31 [1,1,1,1,0,1,0,0,1,0]=.cond (.tmp 38) (P31 [1,1,1,1,0,1,0,0,1,0,0]) (P31 [1,1,1,1,0,1,0,0,1,0,1]):=by kernel_rfl
theorem k31_25:P31 [1,1,1,1,0,1,0,0,1,0,0]=.skip:=by kernel_rfl
theorem k31_26:P31 [1,1,1,1,0,1,0,0,1,1]=.seq (P31 [1,1,1,1,0,1,0,0,1,1,0]) (P31 [1,1,1,1,0,1,0,0,1,1,1]):=by kernel_rfl
theorem k31_27:P31 [1,1,1,1,0,1,0,0,1,1,0]=.block 1 (P31 [1,1,1,1,0,1,0,0,1,1,0,0]):=by kernel_rfl
theorem k31_28:P31 [1,1,1,1,0,1,0,0,1,1,0,0]=.seq (P31 [1,1,1,1,0,1,0,0,1,1,0,0,0]) (P31 [1,1,1,1,0,1,0,0,1,1,0,0,1]):=by kernel_rfl
theorem k31_29:P31 [1,1,1,1,0,1,0,0,1,1,0,0,0]=.region 7 (O31 [1,1,1,1,0,1,0,0,1,1,0,0,0]) false:=by kernel_rfl
theorem r31_7 {x37:Int} {M:Mem} {call:CallM} {K:Array Value→Mem→R} :
 opsK Try.prog (fun _=>call) (O31 [1,1,1,1,0,1,0,0,1,1,0,0,0]) (O31 [1,1,1,1,0,1,0,0,1,1,0,0,0]).toList 0 #[g0,g1,g2,g3,g4,g5,g6,g7,g8,g9,gA,gB,gC,gD,gE,gF,gG,gH,gI,gJ,gK,gL,gM,gN,gO,gP,gQ,gR,gS,gT,gU,gV,gW,gX,gY,gZ,hA,.int .i64 x37,hC,hD,hE,hF,hG,hH,hI,hJ,hK,hL,hM,hN,hO,hP,hQ,hR] M K=K #[g0,g1,g2,g3,g4,g5,g6,g7,.int .i64 x37,g9,gA,gB,gC,gD,gE,gF,gG,gH,gI,gJ,gK,gL,gM,gN,gO,gP,gQ,gR,gS,gT,gU,gV,gW,gX,gY,gZ,hA,.int .i64 x37,hC,.int .i64 x37,hE,hF,hG,hH,hI,hJ,hK,hL,hM,hN,hO,hP,hQ,hR] M:=by kernel_rfl
theorem k31_30:P31 [1,1,1,1,0,1,0,0,1,1,0,0,1]=.region 8 (O31 [1,1,1,1,0,1,0,0,1,1,0,0,1]) false:=by kernel_rfl
theorem r31_8 {x0 x1 x6:Int} {Y7:Option Addr} {l7 y7:Nat} {x8:Int} {M:Mem} {call:CallM} {K:Array Value→Mem→R} :
 opsK Try.prog (fun _=>call) (O31 [1,1,1,1,0,1,0,0,1,1,0,0,1]) (O31 [1,1,1,1,0,1,0,0,1,1,0,0,1]).toList 0 #[.int .i64 x0,.int .i64 x1,g2,g3,g4,g5,.int .i64 x6,.slice Y7 l7 y7,.int .i64 x8,g9,gA,gB,gC,gD,gE,gF,gG,gH,gI,gJ,gK,gL,gM,gN,gO,gP,gQ,gR,gS,gT,gU,gV,gW,gX,gY,gZ,hA,hB,hC,hD,hE,hF,hG,hH,hI,hJ,hK,hL,hM,hN,hO,hP,hQ,hR] M K=(call 50 #[.int .i64 x0] M).bind fun r_1=>(asI .i64 r_1.1).bind fun x_2=>(binV Try.prog .shr 3 3 (.int .i64 (IntKind.i64.wrap (x8*x_2))) (.int .i64 x1)).bind fun v_3=>(asI .i64 v_3).bind fun x_4=>(appendP Try.prog #[22,22] (.slice Y7 l7 y7) (.slice (some ⟨2*r_1.2.nb.size,0,none⟩) 1 1) (r_1.2.new (.cells #[.int .i64 (if x6<IntKind.i64.wrap (x_4*64) then x6 else IntKind.i64.wrap (x_4*64))] 3))).bind fun r_5=>(asS r_5.1).bind fun s_6=>K #[.int .i64 x0,.int .i64 x1,g2,g3,g4,g5,.int .i64 x6,.slice s_6.1 (s_6.2.1) (s_6.2.2),.int .i64 x8,g9,gA,gB,gC,gD,gE,gF,gG,gH,gI,gJ,gK,gL,gM,gN,gO,gP,gQ,gR,gS,gT,gU,gV,gW,gX,gY,gZ,hA,hB,hC,hD,.slice Y7 l7 y7,.int .i64 x8,.int .i64 x0,.int .i64 x_2,.int .i64 (IntKind.i64.wrap (x8*x_2)),.int .i64 x1,.int .i64 x_4,.int .i64 (IntKind.i64.wrap (x_4*64)),.int .i64 x6,.int .i64 (if x6<IntKind.i64.wrap (x_4*64) then x6 else IntKind.i64.wrap (x_4*64)),.slice (some ⟨2*r_1.2.nb.size,0,none⟩) 1 1,.slice s_6.1 (s_6.2.1) (s_6.2.2),hQ,hR] r_5.2:=by kernel_rfl
theorem k31_31:P31 [1,1,1,1,0,1,0,0,1,1,1]=.region 9 (O31 [1,1,1,1,0,1,0,0,1,1,1]) false:=by kernel_rfl
theorem r31_9 {x37:Int} {M:Mem} {call:CallM} {K:Array Value→Mem→R} :
 opsK Try.prog (fun _=>call) (O31 [1,1,1,1,0,1,0,0,1,1,1]) (O31 [1,1,1,1,0,1,0,0,1,1,1]).toList 0 #[g0,g1,g2,g3,g4,g5,g6,g7,g8,g9,gA,gB,gC,gD,gE,gF,gG,gH,gI,gJ,gK,gL,gM,gN,gO,gP,gQ,gR,gS,gT,gU,gV,gW,gX,gY,gZ,hA,.int .i64 x37,hC,hD,hE,hF,hG,hH,hI,hJ,hK,hL,hM,hN,hO,hP,hQ,hR] M K=K #[g0,g1,g2,g3,g4,g5,g6,g7,g8,g9,gA,gB,gC,gD,gE,gF,gG,gH,gI,gJ,gK,gL,gM,gN,gO,gP,gQ,gR,gS,gT,gU,gV,gW,gX,gY,gZ,hA,.int .i64 (IntKind.i64.wrap (x37+1)),hC,hD,hE,hF,hG,hH,hI,hJ,hK,hL,hM,hN,hO,hP,.int .i64 (IntKind.i64.wrap (x37+1)),hR] M:=by kernel_rfl
theorem k31_32:P31 [1,1,1,1,0,1,0,0,1,0,1]=.exit 0:=by kernel_rfl
theorem k31_33:P31 [1,1,1,1,1]=.seq (P31 [1,1,1,1,1,0]) (P31 [1,1,1,1,1,1]):=by kernel_rfl
theorem k31_34:P31 [1,1,1,1,1,0]=.region 10 (O31 [1,1,1,1,1,0]) false:=by kernel_rfl
theorem r31_10 {Y7:Option Addr} {l7 y7:Nat} {M:Mem} {call:CallM} {K:Array Value→Mem→R} :
 opsK Try.prog (fun _=>call) (O31 [1,1,1,1,1,0]) (O31 [1,1,1,1,1,0]).toList 0 #[g0,g1,g2,g3,g4,g5,g6,.slice Y7 l7 y7,g8,g9,gA,gB,gC,gD,gE,gF,gG,gH,gI,gJ,gK,gL,gM,gN,gO,gP,gQ,gR,gS,gT,gU,gV,gW,gX,gY,gZ,hA,hB,hC,hD,hE,hF,hG,hH,hI,hJ,hK,hL,hM,hN,hO,hP,hQ,hR] M K=K #[g0,g1,g2,g3,.slice Y7 l7 y7,.bool true,g6,.slice Y7 l7 y7,g8,g9,gA,gB,gC,gD,gE,gF,gG,gH,gI,gJ,gK,gL,gM,gN,gO,gP,gQ,gR,gS,gT,gU,gV,gW,gX,gY,gZ,hA,hB,hC,hD,hE,hF,hG,hH,hI,hJ,hK,hL,hM,hN,hO,hP,hQ,.slice Y7 l7 y7] M:=by kernel_rfl
theorem k31_35:P31 [1,1,1,1,1,1]=.ret:=by kernel_rfl
noncomputable def S31_1:List Item:=[.code (P31 [1,0,1]),.code (P31 [1,1])]
def A31_1 (x0 x1:Int) (x17:Bool) (M:Mem) (Q:Value→Mem→Prop):Prop:=∀ (g2 g3 g4 g5 g6 g7 g8 g9 gA gB gC gD gE gF gG gI gJ gK gL gM gN gO gP gQ gR gS gT gU gV gW gX gY gZ hA hB hC hD hE hF hG hH hI hJ hK hL hM hN hO hP hQ hR:Value),Rg Try.prog Try.f31 (O31 [1,0,0]) true 9 S31_1 #[.int .i64 x0,.int .i64 x1,g2,g3,g4,g5,g6,g7,g8,g9,gA,gB,gC,gD,gE,gF,gG,.bool x17,gI,gJ,gK,gL,gM,gN,gO,gP,gQ,gR,gS,gT,gU,gV,gW,gX,gY,gZ,hA,hB,hC,hD,hE,hF,hG,hH,hI,hJ,hK,hL,hM,hN,hO,hP,hQ,hR] M Q
noncomputable def S31_2:List Item:=[.code (P31 [1,0,1]),.code (P31 [1,1])]
def A31_2 (x0 x1:Int) (x22:Bool) (M:Mem) (Q:Value→Mem→Prop):Prop:=∀ (g2 g3 g4 g5 g6 g7 g8 g9 gA gB gC gD gE gF gG gH gI gJ gK gL gN gO gP gQ gR gS gT gU gV gW gX gY gZ hA hB hC hD hE hF hG hH hI hJ hK hL hM hN hO hP hQ hR:Value),Rg Try.prog Try.f31 (O31 [1,0,0]) true 14 S31_2 #[.int .i64 x0,.int .i64 x1,g2,g3,g4,g5,g6,g7,g8,g9,gA,gB,gC,gD,gE,gF,gG,gH,gI,gJ,gK,gL,.bool x22,gN,gO,gP,gQ,gR,gS,gT,gU,gV,gW,gX,gY,gZ,hA,hB,hC,hD,hE,hF,hG,hH,hI,hJ,hK,hL,hM,hN,hO,hP,hQ,hR] M Q
noncomputable def S31_3:List Item:=[.code (P31 [1,0,1]),.code (P31 [1,1])]
def A31_3 (x0 x1:Int) (x28:Bool) (M:Mem) (Q:Value→Mem→Prop):Prop:=∀ (g2 g3 g4 g5 g6 g7 g8 g9 gA gB gC gD gE gF gG gH gI gJ gK gL gM gN gO gP gQ gR gT gU gV gW gX gY gZ hA hB hC hD hE hF hG hH hI hJ hK hL hM hN hO hP hQ hR:Value),Rn Try.prog Try.f31 S31_3 #[.int .i64 x0,.int .i64 x1,g2,g3,g4,g5,g6,g7,g8,g9,gA,gB,gC,gD,gE,gF,gG,gH,gI,gJ,gK,gL,gM,gN,gO,gP,gQ,gR,.bool x28,gT,gU,gV,gW,gX,gY,gZ,hA,hB,hC,hD,hE,hF,hG,hH,hI,hJ,hK,hL,hM,hN,hO,hP,hQ,hR] M Q
noncomputable def S31_4:List Item:=[.code (P31 [1,1,1,1,0,1,0,0]),.inLoop (P31 [1,1,1,1,0,1,0,0]),.inBlock 0,.code (P31 [1,1,1,1,1])]
def A31_4 (x0 x1 x6:Int) (Y7:Option Addr) (l7 y7:Nat) (x36 x37:Int) (M:Mem) (Q:Value→Mem→Prop):Prop:=∀ (g2 g3 g4 g5 g8 g9 gA gB gC gD gE gF gG gH gI gJ gK gL gM gN gO gP gQ gR gS gT gU gV gW gX gY gZ hC hD hE hF hG hH hI hJ hK hL hM hN hO hP hQ hR:Value),Rn Try.prog Try.f31 S31_4 #[.int .i64 x0,.int .i64 x1,g2,g3,g4,g5,.int .i64 x6,.slice Y7 l7 y7,g8,g9,gA,gB,gC,gD,gE,gF,gG,gH,gI,gJ,gK,gL,gM,gN,gO,gP,gQ,gR,gS,gT,gU,gV,gW,gX,gY,gZ,.int .i64 x36,.int .i64 x37,hC,hD,hE,hF,hG,hH,hI,hJ,hK,hL,hM,hN,hO,hP,hQ,hR] M Q
theorem w31_0 {x0 x1:Int} {M:Mem} {Q:Value→Mem→Prop} (H :
 Cn Try.prog 35 #[.int .i64 x0,.int .i64 16,.int .i64 256] M fun v1' N1'=>
 ∃b2',asB v1'=some b2'∧
 (((!b2')=true→
 A31_1 x0 x1 true N1' Q)∧
 ((!b2')=false→
 A31_1 x0 x1 ((x0.tmod 2) != 0) N1' Q))):
 Cn Try.prog 31 #[.int .i64 x0,.int .i64 x1] M Q:=by
  refine Cn.of b31 d31 t31 ?_
  refine Rn.seq k31_0 (Rn.region k31_1 (fun call K=>r31_0) (Rch.leaf (Rn.seq k31_2 (Rn.seq k31_3 (Rn.regionC k31_5 (Rg.step (d:=9) (j:=9) (fun call K=>r31_1p0) rfl rfl (Rch.call H fun v1' N1' H=>Rch.ex H fun b2' H=>?_)))))))
  refine Rch.cB (fun h=>?_) (fun h=>?_)
  · replace H:=H.1 (h)
    refine Rch.rest ?_
    exact H ..
  · replace H:=H.2 (h)
    refine Rch.rest ?_
    exact H ..
theorem w31_1 {x0 x1:Int} {x17:Bool} {M:Mem} {Q:Value→Mem→Prop} (H :
 ((x17=true→
 A31_2 x0 x1 true M Q)∧
 (x17=false→
 Cn Try.prog 35 #[.int .i64 x1,.int .i64 0,.int .i64 2] M fun v3' N3'=>
 ∃b4',asB v3'=some b4'∧
 A31_2 x0 x1 (!b4') N3' Q))):
 A31_1 x0 x1 x17 M Q:=by
  iterate 51 intro _
  refine Rg.step (d:=5) (j:=14) (fun call K=>r31_1p9) rfl rfl ?_
  refine Rch.cB (fun h=>?_) (fun h=>?_)
  · replace H:=H.1 (h)
    refine Rch.rest ?_
    exact H ..
  · replace H:=H.2 (h)
    refine Rch.call H fun v3' N3' H=>Rch.ex H fun b4' H=>Rch.rest ?_
    exact H ..
theorem w31_2 {x0 x1:Int} {x22:Bool} {M:Mem} {Q:Value→Mem→Prop} (H :
 ((x22=true→
 A31_3 x0 x1 true M Q)∧
 (x22=false→
 ∃v5',binV Try.prog .shl 3 3 (.int .i64 1) (.int .i64 x1)=some v5'∧
 ∃x6',asI .i64 v5'=some x6'∧
 Cn Try.prog 50 #[.int .i64 x0] M fun v7' N7'=>
 ∃x8',asI .i64 v7'=some x8'∧
 A31_3 x0 x1 (decide (x6'>x8')) N7' Q))):
 A31_2 x0 x1 x22 M Q:=by
  iterate 51 intro _
  refine Rg.step (d:=6) (j:=20) (fun call K=>r31_1p14) rfl rfl ?_
  refine Rch.cB (fun h=>?_) (fun h=>?_)
  · replace H:=H.1 (h)
    refine Rch.rest (Rg.done rfl ?_)
    exact H ..
  · replace H:=H.2 (h)
    refine Rch.ex H fun v5' H=>Rch.ex H fun x6' H=>Rch.call H fun v7' N7' H=>Rch.ex H fun x8' H=>Rch.rest (Rg.done rfl ?_)
    exact H ..
theorem w31_3 {x0 x1:Int} {x28:Bool} {M:Mem} {Q:Value→Mem→Prop} (H :
 ((x28=true→
 Q (.tuple #[.slice none 0 0,.bool false]) M)∧
 (x28=false→
 ∃v9',binV Try.prog .shl 3 3 (.int .i64 1) (.int .i64 x1)=some v9'∧
 ∃x10',asI .i64 v9'=some x10'∧
 A31_4 x0 x1 (IntKind.i64.wrap ((IntKind.i64.wrap ((IntKind.i64.wrap ((IntKind.i64.wrap (x0+8))-1)).tdiv 8))*8)) none 0 0 (IntKind.i64.wrap (x10'+1)) 0 M Q))):
 A31_3 x0 x1 x28 M Q:=by
  iterate 51 intro _
  refine Rn.cnd (v:=x28) ⟨c31_6,rfl,by kernel_rfl⟩ (fun h=>?_) (fun h=>?_)
  · replace H:=H.1 (h)
    refine Rn.seq k31_7 (Rn.region k31_8 (fun call K=>r31_2) (Rch.leaf ?_))
    exact Rn.ret k31_9 e31 H
  · replace H:=H.2 (h)
    refine Rn.skip k31_11 (Rn.seq k31_12 (Rn.region k31_13 (fun call K=>r31_3) (Rch.leaf (Rn.seq k31_14 (Rn.region k31_15 (fun call K=>r31_4) (Rch.leaf (Rn.seq k31_16 (Rn.seq k31_17 (Rn.region k31_18 (fun call K=>r31_5) (Rch.ex H fun v9' H=>Rch.ex H fun x10' H=>?_))))))))))
    refine Rch.leaf (Rn.block k31_19 (Rn.loop k31_20 ?_))
    exact H ..
theorem w31_4 {x0 x1 x6:Int} {Y7:Option Addr} {l7 y7:Nat} {x36 x37:Int} {M:Mem} {Q:Value→Mem→Prop} (H :
 ((x37<x36→
 Cn Try.prog 50 #[.int .i64 x0] M fun v11' N11'=>
 ∃x12',asI .i64 v11'=some x12'∧
 ∃v13',binV Try.prog .shr 3 3 (.int .i64 (IntKind.i64.wrap (x37*x12'))) (.int .i64 x1)=some v13'∧
 ∃x14',asI .i64 v13'=some x14'∧
 ∃r15',appendP Try.prog #[22,22] (.slice Y7 l7 y7) (.slice (some ⟨2*N11'.nb.size,0,none⟩) 1 1) (N11'.new (.cells #[.int .i64 (if x6<IntKind.i64.wrap (x14'*64) then x6 else IntKind.i64.wrap (x14'*64))] 3))=some r15'∧
 ∃s16',asS r15'.1=some s16'∧
 A31_4 x0 x1 x6 s16'.1 s16'.2.1 s16'.2.2 x36 (IntKind.i64.wrap (x37+1)) r15'.2 Q)∧
 (¬(x37<x36)→
 Q (.tuple #[.slice Y7 l7 y7,.bool true]) M))):
 A31_4 x0 x1 x6 Y7 l7 y7 x36 x37 M Q:=by
  iterate 48 intro _
  refine Rn.seq k31_21 (Rn.region k31_22 (fun call K=>r31_6) (Rch.leaf (Rn.seq k31_23 ?_)))
  refine Rn.cnd (v:=decide (x37<x36)) ⟨c31_24,rfl,by kernel_rfl⟩ (fun h=>?_) (fun h=>?_)
  · replace H:=H.1 (of_decide_eq_true h)
    refine Rn.skip k31_25 (Rn.seq k31_26 (Rn.block k31_27 (Rn.seq k31_28 (Rn.region k31_29 (fun call K=>r31_7) (Rch.leaf (Rn.region k31_30 (fun call K=>r31_8) (Rch.call H fun v11' N11' H=>Rch.ex H fun x12' H=>Rch.ex H fun v13' H=>Rch.ex H fun x14' H=>Rch.ex H fun r15' H=>?_)))))))
    refine Rch.ex H fun s16' H=>Rch.leaf (Rn.blk (Rn.region k31_31 (fun call K=>r31_9) (Rch.leaf (Rn.lp ?_))))
    exact H ..
  · replace H:=H.2 (of_decide_eq_false h)
    refine Rn.exit k31_32 rfl (Rn.seq k31_33 (Rn.region k31_34 (fun call K=>r31_10) (Rch.leaf ?_)))
    exact Rn.ret k31_35 e31 H
noncomputable abbrev P16 (p:List Nat):Code:=subC (codeOf Try.f16) p
noncomputable abbrev O16 (p:List Nat):Array Oper:=opsOf (subC (codeOf Try.f16) p)
theorem b16:Try.prog.funcs[16]?=some Try.f16∧(Orc.tab Try.prog).lookup 16=none:=⟨by kernel_rfl,by kernel_rfl⟩
theorem d16:Try.f16.body=some (P16 []):=by kernel_rfl
theorem t16 {x0_0 x0_1 x1 x2:Int}:#[.agg #[.int .i64 x0_0,.int .i64 x0_1],.int .i64 x1,.int .i64 x2] ++ Array.replicate (Try.f16.ntmps-(#[.agg #[.int .i64 x0_0,.int .i64 x0_1],.int .i64 x1,.int .i64 x2]:Array Value).size) undef=#[.agg #[.int .i64 x0_0,.int .i64 x0_1],.int .i64 x1,.int .i64 x2,undef,undef,undef,undef,undef,undef,undef,undef,undef,undef,undef,undef,undef,undef,undef,undef,undef,undef,undef,undef,undef,undef,undef,undef,undef,undef,undef,undef,undef,undef,undef,undef,undef,undef,undef,undef,undef,undef,undef,undef,undef,undef,undef,undef,undef,undef,undef,undef,undef,undef,undef,undef,undef,undef,undef,undef,undef,undef,undef,undef,undef,undef,undef,undef,undef,undef,undef,undef,undef,undef,undef,undef,undef,undef,undef,undef,undef,undef,undef]:=by kernel_rfl
theorem k16_0:P16 []=.seq (P16 [0]) (P16 [1]):=by kernel_rfl
theorem k16_1:P16 [0]=.region 0 (O16 [0]) false:=by kernel_rfl
theorem r16_0 {x0_0 x0_1:Int} {M:Mem} {call:CallM} {K:Array Value→Mem→R} :
 opsK Try.prog (fun _=>call) (O16 [0]) (O16 [0]).toList 0 #[.agg #[.int .i64 x0_0,.int .i64 x0_1],g1,g2,g3,g4,g5,g6,g7,g8,g9,gA,gB,gC,gD,gE,gF,gG,gH,gI,gJ,gK,gL,gM,gN,gO,gP,gQ,gR,gS,gT,gU,gV,gW,gX,gY,gZ,hA,hB,hC,hD,hE,hF,hG,hH,hI,hJ,hK,hL,hM,hN,hO,hP,hQ,hR,hS,hT,hU,hV,hW,hX,hY,hZ,h0,h1,h2,h3,h4,h5,h6,h7,h8,h9,jA,jB,jC,jD,jE,jF,jG,jH,jI,jJ] M K=K #[.agg #[.int .i64 x0_0,.int .i64 x0_1],g1,g2,.pointer (some ⟨2*M.nb.size,0,none⟩),g4,g5,.slice none 0 0,.int .i64 0,g8,g9,gA,gB,gC,gD,gE,gF,gG,gH,gI,gJ,gK,gL,gM,gN,gO,gP,gQ,gR,gS,gT,gU,gV,gW,gX,gY,gZ,hA,hB,hC,hD,hE,hF,hG,hH,hI,hJ,hK,hL,hM,hN,hO,hP,hQ,hR,hS,hT,hU,hV,hW,hX,hY,hZ,h0,h1,h2,h3,h4,h5,h6,h7,h8,h9,jA,jB,jC,jD,jE,jF,jG,jH,jI,jJ] (M.new (.cells #[.int .i64 x0_0,.int .i64 x0_1] 32)):=by kernel_rfl
theorem k16_2:P16 [1]=.seq (P16 [1,0]) (P16 [1,1]):=by kernel_rfl
theorem k16_3:P16 [1,0]=.region 1 (O16 [1,0]) false:=by kernel_rfl
theorem r16_1 {x1:Int} {x3:Option Addr} {M:Mem} {call:CallM} {K:Array Value→Mem→R} :
 opsK Try.prog (fun _=>call) (O16 [1,0]) (O16 [1,0]).toList 0 #[g0,.int .i64 x1,g2,.pointer x3,g4,g5,g6,g7,g8,g9,gA,gB,gC,gD,gE,gF,gG,gH,gI,gJ,gK,gL,gM,gN,gO,gP,gQ,gR,gS,gT,gU,gV,gW,gX,gY,gZ,hA,hB,hC,hD,hE,hF,hG,hH,hI,hJ,hK,hL,hM,hN,hO,hP,hQ,hR,hS,hT,hU,hV,hW,hX,hY,hZ,h0,h1,h2,h3,h4,h5,h6,h7,h8,h9,jA,jB,jC,jD,jE,jF,jG,jH,jI,jJ] M K=(x3).bind fun a_1=>(M.intAt .i64 a_1.block a_1.off).bind fun x_2=>(call 31 #[.int .i64 x_2,.int .i64 x1] M).bind fun r_3=>(asU 2 r_3.1).bind fun cs_4=>(asS (cs_4.getD 0 undef)).bind fun s_5=>(asB (cs_4.getD 1 undef)).bind fun b_6=>K #[g0,.int .i64 x1,g2,.pointer x3,g4,g5,g6,g7,.slice s_5.1 (s_5.2.1) (s_5.2.2),.bool b_6,gA,gB,gC,gD,gE,.tuple #[.slice s_5.1 (s_5.2.1) (s_5.2.2),.bool b_6],.pointer (some ⟨a_1.block,a_1.off,none⟩),.int .i64 x_2,.int .i64 x1,.tuple #[.slice s_5.1 (s_5.2.1) (s_5.2.2),.bool b_6],.slice s_5.1 (s_5.2.1) (s_5.2.2),.bool b_6,gM,gN,gO,gP,gQ,gR,gS,gT,gU,gV,gW,gX,gY,gZ,hA,hB,hC,hD,hE,hF,hG,hH,hI,hJ,hK,hL,hM,hN,hO,hP,hQ,hR,hS,hT,hU,hV,hW,hX,hY,hZ,h0,h1,h2,h3,h4,h5,h6,h7,h8,h9,jA,jB,jC,jD,jE,jF,jG,jH,jI,jJ] r_3.2:=by kernel_rfl
theorem k16_4:P16 [1,1]=.seq (P16 [1,1,0]) (P16 [1,1,1]):=by kernel_rfl
theorem k16_5:P16 [1,1,0]=.region 2 (O16 [1,1,0]) false:=by kernel_rfl
theorem r16_2 {x2:Int} {x3:Option Addr} {M:Mem} {call:CallM} {K:Array Value→Mem→R} :
 opsK Try.prog (fun _=>call) (O16 [1,1,0]) (O16 [1,1,0]).toList 0 #[g0,g1,.int .i64 x2,.pointer x3,g4,g5,g6,g7,g8,g9,gA,gB,gC,gD,gE,gF,gG,gH,gI,gJ,gK,gL,gM,gN,gO,gP,gQ,gR,gS,gT,gU,gV,gW,gX,gY,gZ,hA,hB,hC,hD,hE,hF,hG,hH,hI,hJ,hK,hL,hM,hN,hO,hP,hQ,hR,hS,hT,hU,hV,hW,hX,hY,hZ,h0,h1,h2,h3,h4,h5,h6,h7,h8,h9,jA,jB,jC,jD,jE,jF,jG,jH,jI,jJ] M K=(x3).bind fun a_1=>(M.intAt .i64 a_1.block (a_1.off+1)).bind fun x_2=>(call 31 #[.int .i64 x_2,.int .i64 x2] M).bind fun r_3=>(asU 2 r_3.1).bind fun cs_4=>(asS (cs_4.getD 0 undef)).bind fun s_5=>(asB (cs_4.getD 1 undef)).bind fun b_6=>K #[g0,g1,.int .i64 x2,.pointer x3,g4,g5,g6,g7,g8,g9,.slice s_5.1 (s_5.2.1) (s_5.2.2),.bool b_6,gC,gD,gE,gF,gG,gH,gI,gJ,gK,gL,.tuple #[.slice s_5.1 (s_5.2.1) (s_5.2.2),.bool b_6],.pointer (some ⟨a_1.block,a_1.off+1,none⟩),.int .i64 x_2,.int .i64 x2,.tuple #[.slice s_5.1 (s_5.2.1) (s_5.2.2),.bool b_6],.slice s_5.1 (s_5.2.1) (s_5.2.2),.bool b_6,gT,gU,gV,gW,gX,gY,gZ,hA,hB,hC,hD,hE,hF,hG,hH,hI,hJ,hK,hL,hM,hN,hO,hP,hQ,hR,hS,hT,hU,hV,hW,hX,hY,hZ,h0,h1,h2,h3,h4,h5,h6,h7,h8,h9,jA,jB,jC,jD,jE,jF,jG,jH,jI,jJ] r_3.2:=by kernel_rfl
theorem k16_6:P16 [1,1,1]=.seq (P16 [1,1,1,0]) (P16 [1,1,1,1]):=by kernel_rfl
theorem k16_7:P16 [1,1,1,0]=.seq (P16 [1,1,1,0,0]) (P16 [1,1,1,0,1]):=by kernel_rfl
theorem k16_8:P16 [1,1,1,0,0]=.region 3 (O16 [1,1,1,0,0]) false:=by kernel_rfl
theorem r16_3 {x9 x11:Bool} {M:Mem} {call:CallM} {K:Array Value→Mem→R} :
 opsK Try.prog (fun _=>call) (O16 [1,1,1,0,0]) (O16 [1,1,1,0,0]).toList 0 #[g0,g1,g2,g3,g4,g5,g6,g7,g8,.bool x9,gA,.bool x11,gC,gD,gE,gF,gG,gH,gI,gJ,gK,gL,gM,gN,gO,gP,gQ,gR,gS,gT,gU,gV,gW,gX,gY,gZ,hA,hB,hC,hD,hE,hF,hG,hH,hI,hJ,hK,hL,hM,hN,hO,hP,hQ,hR,hS,hT,hU,hV,hW,hX,hY,hZ,h0,h1,h2,h3,h4,h5,h6,h7,h8,h9,jA,jB,jC,jD,jE,jF,jG,jH,jI,jJ] M K=withK (fun w31 w32 w33 w34 M=>K #[g0,g1,g2,g3,g4,g5,g6,g7,g8,.bool x9,gA,.bool x11,gC,gD,gE,gF,gG,gH,gI,gJ,gK,gL,gM,gN,gO,gP,gQ,gR,gS,.bool x9,.bool (!x9),w31,w32,w33,w34,gZ,hA,hB,hC,hD,hE,hF,hG,hH,hI,hJ,hK,hL,hM,hN,hO,hP,hQ,hR,hS,hT,hU,hV,hW,hX,hY,hZ,h0,h1,h2,h3,h4,h5,h6,h7,h8,h9,jA,jB,jC,jD,jE,jF,jG,jH,jI,jJ] M) fun k=>cond (!x9) (k (.bool true) undef undef (.bool true) M) (k (.bool false) (.bool x11) (.bool (!x11)) (.bool (!x11)) M):=by kernel_rfl
theorem c16_9:P16 [1,1,1,0,1]=.cond (.tmp 34) (P16 [1,1,1,0,1,0]) (P16 [1,1,1,0,1,1]):=by kernel_rfl
theorem k16_10:P16 [1,1,1,0,1,0]=.seq (P16 [1,1,1,0,1,0,0]) (P16 [1,1,1,0,1,0,1]):=by kernel_rfl
theorem k16_11:P16 [1,1,1,0,1,0,0]=.region 4 (O16 [1,1,1,0,1,0,0]) false:=by kernel_rfl
theorem r16_4 {M:Mem} {call:CallM} {K:Array Value→Mem→R} :
 opsK Try.prog (fun _=>call) (O16 [1,1,1,0,1,0,0]) (O16 [1,1,1,0,1,0,0]).toList 0 #[g0,g1,g2,g3,g4,g5,g6,g7,g8,g9,gA,gB,gC,gD,gE,gF,gG,gH,gI,gJ,gK,gL,gM,gN,gO,gP,gQ,gR,gS,gT,gU,gV,gW,gX,gY,gZ,hA,hB,hC,hD,hE,hF,hG,hH,hI,hJ,hK,hL,hM,hN,hO,hP,hQ,hR,hS,hT,hU,hV,hW,hX,hY,hZ,h0,h1,h2,h3,h4,h5,h6,h7,h8,h9,jA,jB,jC,jD,jE,jF,jG,jH,jI,jJ] M K=K #[g0,g1,g2,g3,g4,g5,.slice none 0 0,.int .i64 2,g8,g9,gA,gB,gC,gD,gE,gF,gG,gH,gI,gJ,gK,gL,gM,gN,gO,gP,gQ,gR,gS,gT,gU,gV,gW,gX,gY,gZ,hA,hB,hC,hD,hE,hF,hG,hH,hI,hJ,hK,hL,hM,hN,hO,hP,hQ,hR,hS,hT,hU,hV,hW,hX,hY,hZ,h0,h1,h2,h3,h4,h5,h6,h7,h8,h9,jA,jB,jC,jD,jE,jF,jG,jH,jI,jJ] M:=by kernel_rfl
theorem k16_12:P16 [1,1,1,0,1,0,1]=.ret:=by kernel_rfl
theorem e16 {M:Mem}:finish Try.prog Try.f16 #[g0,g1,g2,g3,g4,g5,g6,g7,g8,g9,gA,gB,gC,gD,gE,gF,gG,gH,gI,gJ,gK,gL,gM,gN,gO,gP,gQ,gR,gS,gT,gU,gV,gW,gX,gY,gZ,hA,hB,hC,hD,hE,hF,hG,hH,hI,hJ,hK,hL,hM,hN,hO,hP,hQ,hR,hS,hT,hU,hV,hW,hX,hY,hZ,h0,h1,h2,h3,h4,h5,h6,h7,h8,h9,jA,jB,jC,jD,jE,jF,jG,jH,jI,jJ] M=some (.tuple #[g6,g7],M):=by kernel_rfl
theorem k16_14:P16 [1,1,1,0,1,1]=.skip:=by kernel_rfl
theorem k16_15:P16 [1,1,1,1]=.seq (P16 [1,1,1,1,0]) (P16 [1,1,1,1,1]):=by kernel_rfl
theorem k16_16:P16 [1,1,1,1,0]=.region 5 (O16 [1,1,1,1,0]) false:=by kernel_rfl
theorem r16_5 {M:Mem} {call:CallM} {K:Array Value→Mem→R} :
 opsK Try.prog (fun _=>call) (O16 [1,1,1,1,0]) (O16 [1,1,1,1,0]).toList 0 #[g0,g1,g2,g3,g4,g5,g6,g7,g8,g9,gA,gB,gC,gD,gE,gF,gG,gH,gI,gJ,gK,gL,gM,gN,gO,gP,gQ,gR,gS,gT,gU,gV,gW,gX,gY,gZ,hA,hB,hC,hD,hE,hF,hG,hH,hI,hJ,hK,hL,hM,hN,hO,hP,hQ,hR,hS,hT,hU,hV,hW,hX,hY,hZ,h0,h1,h2,h3,h4,h5,h6,h7,h8,h9,jA,jB,jC,jD,jE,jF,jG,jH,jI,jJ] M K=K #[g0,g1,g2,g3,g4,g5,g6,g7,g8,g9,gA,gB,.slice none 0 0,gD,gE,gF,gG,gH,gI,gJ,gK,gL,gM,gN,gO,gP,gQ,gR,gS,gT,gU,gV,gW,gX,gY,gZ,hA,hB,hC,hD,hE,hF,hG,hH,hI,hJ,hK,hL,hM,hN,hO,hP,hQ,hR,hS,hT,hU,hV,hW,hX,hY,hZ,h0,h1,h2,h3,h4,h5,h6,h7,h8,h9,jA,jB,jC,jD,jE,jF,jG,jH,jI,jJ] M:=by kernel_rfl
theorem k16_17:P16 [1,1,1,1,1]=.seq (P16 [1,1,1,1,1,0]) (P16 [1,1,1,1,1,1]):=by kernel_rfl
theorem k16_18:P16 [1,1,1,1,1,0]=.seq (P16 [1,1,1,1,1,0,0]) (P16 [1,1,1,1,1,0,1]):=by kernel_rfl
theorem k16_19:P16 [1,1,1,1,1,0,0]=.region 6 (O16 [1,1,1,1,1,0,0]) false:=by kernel_rfl
theorem r16_6 {Y10:Option Addr} {l10 y10:Nat} {M:Mem} {call:CallM} {K:Array Value→Mem→R} :
 opsK Try.prog (fun _=>call) (O16 [1,1,1,1,1,0,0]) (O16 [1,1,1,1,1,0,0]).toList 0 #[g0,g1,g2,g3,g4,g5,g6,g7,g8,g9,.slice Y10 l10 y10,gB,gC,gD,gE,gF,gG,gH,gI,gJ,gK,gL,gM,gN,gO,gP,gQ,gR,gS,gT,gU,gV,gW,gX,gY,gZ,hA,hB,hC,hD,hE,hF,hG,hH,hI,hJ,hK,hL,hM,hN,hO,hP,hQ,hR,hS,hT,hU,hV,hW,hX,hY,hZ,h0,h1,h2,h3,h4,h5,h6,h7,h8,h9,jA,jB,jC,jD,jE,jF,jG,jH,jI,jJ] M K=K #[g0,g1,g2,g3,g4,g5,g6,g7,g8,g9,.slice Y10 l10 y10,gB,gC,gD,gE,gF,gG,gH,gI,gJ,gK,gL,gM,gN,gO,gP,gQ,gR,gS,gT,gU,gV,gW,gX,gY,.slice Y10 l10 y10,.int .i64 ((l10:Int)),.int .i64 (IntKind.i64.wrap (((l10:Int))-1)),.int .i64 0,hD,hE,hF,hG,hH,hI,hJ,hK,hL,hM,hN,hO,hP,hQ,hR,hS,hT,hU,hV,hW,hX,hY,hZ,h0,h1,h2,h3,h4,h5,h6,h7,h8,h9,jA,jB,jC,jD,jE,jF,jG,jH,jI,jJ] M:=by kernel_rfl
theorem k16_20:P16 [1,1,1,1,1,0,1]=.block 0 (P16 [1,1,1,1,1,0,1,0]):=by kernel_rfl
theorem k16_21:P16 [1,1,1,1,1,0,1,0]=.loop (P16 [1,1,1,1,1,0,1,0,0]):=by kernel_rfl
theorem k16_22:P16 [1,1,1,1,1,0,1,0,0]=.seq (P16 [1,1,1,1,1,0,1,0,0,0]) (P16 [1,1,1,1,1,0,1,0,0,1]):=by kernel_rfl
theorem k16_23:P16 [1,1,1,1,1,0,1,0,0,0]=.region 7 (O16 [1,1,1,1,1,0,1,0,0,0]) false:=by kernel_rfl
theorem r16_7 {x37 x38:Int} {M:Mem} {call:CallM} {K:Array Value→Mem→R} :
 opsK Try.prog (fun _=>call) (O16 [1,1,1,1,1,0,1,0,0,0]) (O16 [1,1,1,1,1,0,1,0,0,0]).toList 0 #[g0,g1,g2,g3,g4,g5,g6,g7,g8,g9,gA,gB,gC,gD,gE,gF,gG,gH,gI,gJ,gK,gL,gM,gN,gO,gP,gQ,gR,gS,gT,gU,gV,gW,gX,gY,gZ,hA,.int .i64 x37,.int .i64 x38,hD,hE,hF,hG,hH,hI,hJ,hK,hL,hM,hN,hO,hP,hQ,hR,hS,hT,hU,hV,hW,hX,hY,hZ,h0,h1,h2,h3,h4,h5,h6,h7,h8,h9,jA,jB,jC,jD,jE,jF,jG,jH,jI,jJ] M K=K #[g0,g1,g2,g3,g4,g5,g6,g7,g8,g9,gA,gB,gC,gD,gE,gF,gG,gH,gI,gJ,gK,gL,gM,gN,gO,gP,gQ,gR,gS,gT,gU,gV,gW,gX,gY,gZ,hA,.int .i64 x37,.int .i64 x38,.bool (decide (x38<x37)),hE,hF,hG,hH,hI,hJ,hK,hL,hM,hN,hO,hP,hQ,hR,hS,hT,hU,hV,hW,hX,hY,hZ,h0,h1,h2,h3,h4,h5,h6,h7,h8,h9,jA,jB,jC,jD,jE,jF,jG,jH,jI,jJ] M:=by kernel_rfl
theorem k16_24:P16 [1,1,1,1,1,0,1,0,0,1]=.seq (P16 [1,1,1,1,1,0,1,0,0,1,0]) (P16 [1,1,1,1,1,0,1,0,0,1,1]):=by kernel_rfl
theorem c16_25:P16 [1,1,1,1,1,0,1,0,0,1,0]=.cond (.tmp 39) (P16 [1,1,1,1,1,0,1,0,0,1,0,0]) (P16 [1,1,1,1,1,0,1,0,0,1,0,1]):=by kernel_rfl
theorem k16_26:P16 [1,1,1,1,1,0,1,0,0,1,0,0]=.skip:=by kernel_rfl
theorem k16_27:P16 [1,1,1,1,1,0,1,0,0,1,1]=.seq (P16 [1,1,1,1,1,0,1,0,0,1,1,0]) (P16 [1,1,1,1,1,0,1,0,0,1,1,1]):=by kernel_rfl
theorem k16_28:P16 [1,1,1,1,1,0,1,0,0,1,1,0]=.block 1 (P16 [1,1,1,1,1,0,1,0,0,1,1,0,0]):=by kernel_rfl
theorem k16_29:P16 [1,1,1,1,1,0,1,0,0,1,1,0,0]=.seq (P16 [1,1,1,1,1,0,1,0,0,1,1,0,0,0]) (P16 [1,1,1,1,1,0,1,0,0,1,1,0,0,1]):=by kernel_rfl
theorem k16_30:P16 [1,1,1,1,1,0,1,0,0,1,1,0,0,0]=.region 8 (O16 [1,1,1,1,1,0,1,0,0,1,1,0,0,0]) false:=by kernel_rfl
theorem r16_8 {x38:Int} {M:Mem} {call:CallM} {K:Array Value→Mem→R} :
 opsK Try.prog (fun _=>call) (O16 [1,1,1,1,1,0,1,0,0,1,1,0,0,0]) (O16 [1,1,1,1,1,0,1,0,0,1,1,0,0,0]).toList 0 #[g0,g1,g2,g3,g4,g5,g6,g7,g8,g9,gA,gB,gC,gD,gE,gF,gG,gH,gI,gJ,gK,gL,gM,gN,gO,gP,gQ,gR,gS,gT,gU,gV,gW,gX,gY,gZ,hA,hB,.int .i64 x38,hD,hE,hF,hG,hH,hI,hJ,hK,hL,hM,hN,hO,hP,hQ,hR,hS,hT,hU,hV,hW,hX,hY,hZ,h0,h1,h2,h3,h4,h5,h6,h7,h8,h9,jA,jB,jC,jD,jE,jF,jG,jH,jI,jJ] M K=K #[g0,g1,g2,g3,g4,g5,g6,g7,g8,g9,gA,gB,gC,.int .i64 x38,gE,gF,gG,gH,gI,gJ,gK,gL,gM,gN,gO,gP,gQ,gR,gS,gT,gU,gV,gW,gX,gY,gZ,hA,hB,.int .i64 x38,hD,.int .i64 x38,hF,hG,hH,hI,hJ,hK,hL,hM,hN,hO,hP,hQ,hR,hS,hT,hU,hV,hW,hX,hY,hZ,h0,h1,h2,h3,h4,h5,h6,h7,h8,h9,jA,jB,jC,jD,jE,jF,jG,jH,jI,jJ] M:=by kernel_rfl
theorem k16_31:P16 [1,1,1,1,1,0,1,0,0,1,1,0,0,1]=.seq (P16 [1,1,1,1,1,0,1,0,0,1,1,0,0,1,0]) (P16 [1,1,1,1,1,0,1,0,0,1,1,0,0,1,1]):=by kernel_rfl
theorem k16_32:P16 [1,1,1,1,1,0,1,0,0,1,1,0,0,1,0]=.region 9 (O16 [1,1,1,1,1,0,1,0,0,1,1,0,0,1,0]) false:=by kernel_rfl
theorem r16_9 {Y8:Option Addr} {l8 y8:Nat} {M:Mem} {call:CallM} {K:Array Value→Mem→R} :
 opsK Try.prog (fun _=>call) (O16 [1,1,1,1,1,0,1,0,0,1,1,0,0,1,0]) (O16 [1,1,1,1,1,0,1,0,0,1,1,0,0,1,0]).toList 0 #[g0,g1,g2,g3,g4,g5,g6,g7,.slice Y8 l8 y8,g9,gA,gB,gC,gD,gE,gF,gG,gH,gI,gJ,gK,gL,gM,gN,gO,gP,gQ,gR,gS,gT,gU,gV,gW,gX,gY,gZ,hA,hB,hC,hD,hE,hF,hG,hH,hI,hJ,hK,hL,hM,hN,hO,hP,hQ,hR,hS,hT,hU,hV,hW,hX,hY,hZ,h0,h1,h2,h3,h4,h5,h6,h7,h8,h9,jA,jB,jC,jD,jE,jF,jG,jH,jI,jJ] M K=K #[g0,g1,g2,g3,g4,g5,g6,g7,.slice Y8 l8 y8,g9,gA,gB,gC,gD,gE,gF,gG,gH,gI,gJ,gK,gL,gM,gN,gO,gP,gQ,gR,gS,gT,gU,gV,gW,gX,gY,gZ,hA,hB,hC,hD,hE,.slice Y8 l8 y8,.int .i64 ((l8:Int)),.int .i64 (IntKind.i64.wrap (((l8:Int))-1)),.int .i64 0,hJ,hK,hL,hM,hN,hO,hP,hQ,hR,hS,hT,hU,hV,hW,hX,hY,hZ,h0,h1,h2,h3,h4,h5,h6,h7,h8,h9,jA,jB,jC,jD,jE,jF,jG,jH,jI,jJ] M:=by kernel_rfl
theorem k16_33:P16 [1,1,1,1,1,0,1,0,0,1,1,0,0,1,1]=.block 2 (P16 [1,1,1,1,1,0,1,0,0,1,1,0,0,1,1,0]):=by kernel_rfl
theorem k16_34:P16 [1,1,1,1,1,0,1,0,0,1,1,0,0,1,1,0]=.loop (P16 [1,1,1,1,1,0,1,0,0,1,1,0,0,1,1,0,0]):=by kernel_rfl
theorem k16_35:P16 [1,1,1,1,1,0,1,0,0,1,0,1]=.exit 0:=by kernel_rfl
theorem k16_36:P16 [1,1,1,1,1,1]=.seq (P16 [1,1,1,1,1,1,0]) (P16 [1,1,1,1,1,1,1]):=by kernel_rfl
theorem k16_37:P16 [1,1,1,1,1,1,0]=.region 15 (O16 [1,1,1,1,1,1,0]) false:=by kernel_rfl
theorem r16_15 {Y12:Option Addr} {l12 y12:Nat} {M:Mem} {call:CallM} {K:Array Value→Mem→R} :
 opsK Try.prog (fun _=>call) (O16 [1,1,1,1,1,1,0]) (O16 [1,1,1,1,1,1,0]).toList 0 #[g0,g1,g2,g3,g4,g5,g6,g7,g8,g9,gA,gB,.slice Y12 l12 y12,gD,gE,gF,gG,gH,gI,gJ,gK,gL,gM,gN,gO,gP,gQ,gR,gS,gT,gU,gV,gW,gX,gY,gZ,hA,hB,hC,hD,hE,hF,hG,hH,hI,hJ,hK,hL,hM,hN,hO,hP,hQ,hR,hS,hT,hU,hV,hW,hX,hY,hZ,h0,h1,h2,h3,h4,h5,h6,h7,h8,h9,jA,jB,jC,jD,jE,jF,jG,jH,jI,jJ] M K=K #[g0,g1,g2,g3,g4,g5,.slice Y12 l12 y12,.int .i64 0,g8,g9,gA,gB,.slice Y12 l12 y12,gD,gE,gF,gG,gH,gI,gJ,gK,gL,gM,gN,gO,gP,gQ,gR,gS,gT,gU,gV,gW,gX,gY,gZ,hA,hB,hC,hD,hE,hF,hG,hH,hI,hJ,hK,hL,hM,hN,hO,hP,hQ,hR,hS,hT,hU,hV,hW,hX,hY,hZ,h0,h1,h2,h3,h4,h5,h6,h7,h8,h9,jA,jB,jC,jD,jE,jF,jG,jH,jI,.slice Y12 l12 y12] M:=by kernel_rfl
theorem k16_38:P16 [1,1,1,1,1,1,1]=.ret:=by kernel_rfl
theorem k16_39:P16 [1,1,1,1,1,0,1,0,0,1,1,0,0,1,1,0,0]=.seq (P16 [1,1,1,1,1,0,1,0,0,1,1,0,0,1,1,0,0,0]) (P16 [1,1,1,1,1,0,1,0,0,1,1,0,0,1,1,0,0,1]):=by kernel_rfl
theorem k16_40:P16 [1,1,1,1,1,0,1,0,0,1,1,0,0,1,1,0,0,0]=.region 10 (O16 [1,1,1,1,1,0,1,0,0,1,1,0,0,1,1,0,0,0]) false:=by kernel_rfl
theorem r16_10 {x43 x44:Int} {M:Mem} {call:CallM} {K:Array Value→Mem→R} :
 opsK Try.prog (fun _=>call) (O16 [1,1,1,1,1,0,1,0,0,1,1,0,0,1,1,0,0,0]) (O16 [1,1,1,1,1,0,1,0,0,1,1,0,0,1,1,0,0,0]).toList 0 #[g0,g1,g2,g3,g4,g5,g6,g7,g8,g9,gA,gB,gC,gD,gE,gF,gG,gH,gI,gJ,gK,gL,gM,gN,gO,gP,gQ,gR,gS,gT,gU,gV,gW,gX,gY,gZ,hA,hB,hC,hD,hE,hF,hG,.int .i64 x43,.int .i64 x44,hJ,hK,hL,hM,hN,hO,hP,hQ,hR,hS,hT,hU,hV,hW,hX,hY,hZ,h0,h1,h2,h3,h4,h5,h6,h7,h8,h9,jA,jB,jC,jD,jE,jF,jG,jH,jI,jJ] M K=K #[g0,g1,g2,g3,g4,g5,g6,g7,g8,g9,gA,gB,gC,gD,gE,gF,gG,gH,gI,gJ,gK,gL,gM,gN,gO,gP,gQ,gR,gS,gT,gU,gV,gW,gX,gY,gZ,hA,hB,hC,hD,hE,hF,hG,.int .i64 x43,.int .i64 x44,.bool (decide (x44<x43)),hK,hL,hM,hN,hO,hP,hQ,hR,hS,hT,hU,hV,hW,hX,hY,hZ,h0,h1,h2,h3,h4,h5,h6,h7,h8,h9,jA,jB,jC,jD,jE,jF,jG,jH,jI,jJ] M:=by kernel_rfl
theorem k16_41:P16 [1,1,1,1,1,0,1,0,0,1,1,0,0,1,1,0,0,1]=.seq (P16 [1,1,1,1,1,0,1,0,0,1,1,0,0,1,1,0,0,1,0]) (P16 [1,1,1,1,1,0,1,0,0,1,1,0,0,1,1,0,0,1,1]):=by kernel_rfl
theorem c16_42:P16 [1,1,1,1,1,0,1,0,0,1,1,0,0,1,1,0,0,1,0]=.cond (.tmp 45) (P16 [1,1,1,1,1,0,1,0,0,1,1,0,0,1,1,0,0,1,0,0]) (P16 [1,1,1,1,1,0,1,0,0,1,1,0,0,1,1,0,0,1,0,1]):=by kernel_rfl
theorem k16_43:P16 [1,1,1,1,1,0,1,0,0,1,1,0,0,1,1,0,0,1,0,0]=.skip:=by kernel_rfl
theorem k16_44:P16 [1,1,1,1,1,0,1,0,0,1,1,0,0,1,1,0,0,1,1]=.seq (P16 [1,1,1,1,1,0,1,0,0,1,1,0,0,1,1,0,0,1,1,0]) (P16 [1,1,1,1,1,0,1,0,0,1,1,0,0,1,1,0,0,1,1,1]):=by kernel_rfl
theorem k16_45:P16 [1,1,1,1,1,0,1,0,0,1,1,0,0,1,1,0,0,1,1,0]=.block 3 (P16 [1,1,1,1,1,0,1,0,0,1,1,0,0,1,1,0,0,1,1,0,0]):=by kernel_rfl
theorem k16_46:P16 [1,1,1,1,1,0,1,0,0,1,1,0,0,1,1,0,0,1,1,0,0]=.seq (P16 [1,1,1,1,1,0,1,0,0,1,1,0,0,1,1,0,0,1,1,0,0,0]) (P16 [1,1,1,1,1,0,1,0,0,1,1,0,0,1,1,0,0,1,1,0,0,1]):=by kernel_rfl
theorem k16_47:P16 [1,1,1,1,1,0,1,0,0,1,1,0,0,1,1,0,0,1,1,0,0,0]=.region 11 (O16 [1,1,1,1,1,0,1,0,0,1,1,0,0,1,1,0,0,1,1,0,0,0]) false:=by kernel_rfl
theorem r16_11 {x44:Int} {M:Mem} {call:CallM} {K:Array Value→Mem→R} :
 opsK Try.prog (fun _=>call) (O16 [1,1,1,1,1,0,1,0,0,1,1,0,0,1,1,0,0,1,1,0,0,0]) (O16 [1,1,1,1,1,0,1,0,0,1,1,0,0,1,1,0,0,1,1,0,0,0]).toList 0 #[g0,g1,g2,g3,g4,g5,g6,g7,g8,g9,gA,gB,gC,gD,gE,gF,gG,gH,gI,gJ,gK,gL,gM,gN,gO,gP,gQ,gR,gS,gT,gU,gV,gW,gX,gY,gZ,hA,hB,hC,hD,hE,hF,hG,hH,.int .i64 x44,hJ,hK,hL,hM,hN,hO,hP,hQ,hR,hS,hT,hU,hV,hW,hX,hY,hZ,h0,h1,h2,h3,h4,h5,h6,h7,h8,h9,jA,jB,jC,jD,jE,jF,jG,jH,jI,jJ] M K=K #[g0,g1,g2,g3,g4,g5,g6,g7,g8,g9,gA,gB,gC,gD,.int .i64 x44,gF,gG,gH,gI,gJ,gK,gL,gM,gN,gO,gP,gQ,gR,gS,gT,gU,gV,gW,gX,gY,gZ,hA,hB,hC,hD,hE,hF,hG,hH,.int .i64 x44,hJ,.int .i64 x44,hL,hM,hN,hO,hP,hQ,hR,hS,hT,hU,hV,hW,hX,hY,hZ,h0,h1,h2,h3,h4,h5,h6,h7,h8,h9,jA,jB,jC,jD,jE,jF,jG,jH,jI,jJ] M:=by kernel_rfl
theorem k16_48:P16 [1,1,1,1,1,0,1,0,0,1,1,0,0,1,1,0,0,1,1,0,0,1]=.region 12 (O16 [1,1,1,1,1,0,1,0,0,1,1,0,0,1,1,0,0,1,1,0,0,1]) true∧drawOk (O16 [1,1,1,1,1,0,1,0,0,1,1,0,0,1,1,0,0,1,1,0,0,1])=true:=⟨by kernel_rfl,by kernel_rfl⟩
theorem r16_12 {Y8:Option Addr} {l8 y8:Nat} {Y10:Option Addr} {l10 y10:Nat} {Y12:Option Addr} {l12 y12:Nat} {x13 x14:Int} {M:Mem} {call:CallM} {K:Array Value→Mem→R} :
    opsI Try.prog (callAt call (O16 [1,1,1,1,1,0,1,0,0,1,1,0,0,1,1,0,0,1,1,0,0,1])) (O16 [1,1,1,1,1,0,1,0,0,1,1,0,0,1,1,0,0,1,1,0,0,1]) (ordOf (O16 [1,1,1,1,1,0,1,0,0,1,1,0,0,1,1,0,0,1,1,0,0,1])) [] #[g0,g1,g2,g3,g4,g5,g6,g7,.slice Y8 l8 y8,g9,.slice Y10 l10 y10,gB,.slice Y12 l12 y12,.int .i64 x13,.int .i64 x14,gF,gG,gH,gI,gJ,gK,gL,gM,gN,gO,gP,gQ,gR,gS,gT,gU,gV,gW,gX,gY,gZ,hA,hB,hC,hD,hE,hF,hG,hH,hI,hJ,hK,hL,hM,hN,hO,hP,hQ,hR,hS,hT,hU,hV,hW,hX,hY,hZ,h0,h1,h2,h3,h4,h5,h6,h7,h8,h9,jA,jB,jC,jD,jE,jF,jG,jH,jI,jJ] M K=(idxA Y8 l8 1 x14).bind fun a_1=>(M.intAt .i64 a_1.block a_1.off).bind fun x_2=>(idxA Y10 l10 1 x13).bind fun a_3=>(M.intAt .i64 a_3.block a_3.off).bind fun x_4=>(idxA Y8 l8 1 (IntKind.i64.wrap (x14+1))).bind fun a_5=>(M.intAt .i64 a_5.block a_5.off).bind fun x_6=>(idxA Y8 l8 1 x14).bind fun a_7=>(M.intAt .i64 a_7.block a_7.off).bind fun x_8=>(idxA Y10 l10 1 (IntKind.i64.wrap (x13+1))).bind fun a_9=>(M.intAt .i64 a_9.block a_9.off).bind fun x_10=>(idxA Y10 l10 1 x13).bind fun a_11=>(M.intAt .i64 a_11.block a_11.off).bind fun x_12=>(appendP Try.prog #[36,36] (.slice Y12 l12 y12) (.slice (some ⟨2*M.nb.size,0,none⟩) 1 1) (M.new (.cells #[.int .i64 x_2,.int .i64 x_4,.int .i64 (IntKind.i64.wrap (x_6-x_8)),.int .i64 (IntKind.i64.wrap (x_10-x_12))] 35))).bind fun r_13=>(asS r_13.1).bind fun s_14=>K #[g0,g1,g2,g3,g4,g5,g6,g7,.slice Y8 l8 y8,g9,.slice Y10 l10 y10,gB,.slice s_14.1 (s_14.2.1) (s_14.2.2),.int .i64 x13,.int .i64 x14,gF,gG,gH,gI,gJ,gK,gL,gM,gN,gO,gP,gQ,gR,gS,gT,gU,gV,gW,gX,gY,gZ,hA,hB,hC,hD,hE,hF,hG,hH,hI,hJ,hK,.slice Y12 l12 y12,.slice Y8 l8 y8,.int .i64 x14,.pointer (some a_1),.int .i64 x_2,.slice Y10 l10 y10,.int .i64 x13,.pointer (some a_3),.int .i64 x_4,.slice Y8 l8 y8,.int .i64 x14,.int .i64 (IntKind.i64.wrap (x14+1)),.pointer (some a_5),.int .i64 x_6,.slice Y8 l8 y8,.int .i64 x14,.pointer (some a_7),.int .i64 x_8,.int .i64 (IntKind.i64.wrap (x_6-x_8)),.slice Y10 l10 y10,.int .i64 x13,.int .i64 (IntKind.i64.wrap (x13+1)),.pointer (some a_9),.int .i64 x_10,.slice Y10 l10 y10,.int .i64 x13,.pointer (some a_11),.int .i64 x_12,.int .i64 (IntKind.i64.wrap (x_10-x_12)),.agg #[.int .i64 x_2,.int .i64 x_4,.int .i64 (IntKind.i64.wrap (x_6-x_8)),.int .i64 (IntKind.i64.wrap (x_10-x_12))],.slice (some ⟨2*M.nb.size,0,none⟩) 1 1,.slice s_14.1 (s_14.2.1) (s_14.2.2),jH,jI,jJ] r_13.2:=by kernel_rfl
theorem k16_49:P16 [1,1,1,1,1,0,1,0,0,1,1,0,0,1,1,0,0,1,1,1]=.region 13 (O16 [1,1,1,1,1,0,1,0,0,1,1,0,0,1,1,0,0,1,1,1]) false:=by kernel_rfl
theorem r16_13 {x44:Int} {M:Mem} {call:CallM} {K:Array Value→Mem→R} :
 opsK Try.prog (fun _=>call) (O16 [1,1,1,1,1,0,1,0,0,1,1,0,0,1,1,0,0,1,1,1]) (O16 [1,1,1,1,1,0,1,0,0,1,1,0,0,1,1,0,0,1,1,1]).toList 0 #[g0,g1,g2,g3,g4,g5,g6,g7,g8,g9,gA,gB,gC,gD,gE,gF,gG,gH,gI,gJ,gK,gL,gM,gN,gO,gP,gQ,gR,gS,gT,gU,gV,gW,gX,gY,gZ,hA,hB,hC,hD,hE,hF,hG,hH,.int .i64 x44,hJ,hK,hL,hM,hN,hO,hP,hQ,hR,hS,hT,hU,hV,hW,hX,hY,hZ,h0,h1,h2,h3,h4,h5,h6,h7,h8,h9,jA,jB,jC,jD,jE,jF,jG,jH,jI,jJ] M K=K #[g0,g1,g2,g3,g4,g5,g6,g7,g8,g9,gA,gB,gC,gD,gE,gF,gG,gH,gI,gJ,gK,gL,gM,gN,gO,gP,gQ,gR,gS,gT,gU,gV,gW,gX,gY,gZ,hA,hB,hC,hD,hE,hF,hG,hH,.int .i64 (IntKind.i64.wrap (x44+1)),hJ,hK,hL,hM,hN,hO,hP,hQ,hR,hS,hT,hU,hV,hW,hX,hY,hZ,h0,h1,h2,h3,h4,h5,h6,h7,h8,h9,jA,jB,jC,jD,jE,jF,jG,.int .i64 (IntKind.i64.wrap (x44+1)),jI,jJ] M:=by kernel_rfl
theorem k16_50:P16 [1,1,1,1,1,0,1,0,0,1,1,0,0,1,1,0,0,1,0,1]=.exit 2:=by kernel_rfl
theorem k16_51:P16 [1,1,1,1,1,0,1,0,0,1,1,1]=.region 14 (O16 [1,1,1,1,1,0,1,0,0,1,1,1]) false:=by kernel_rfl
theorem r16_14 {x38:Int} {M:Mem} {call:CallM} {K:Array Value→Mem→R} :
 opsK Try.prog (fun _=>call) (O16 [1,1,1,1,1,0,1,0,0,1,1,1]) (O16 [1,1,1,1,1,0,1,0,0,1,1,1]).toList 0 #[g0,g1,g2,g3,g4,g5,g6,g7,g8,g9,gA,gB,gC,gD,gE,gF,gG,gH,gI,gJ,gK,gL,gM,gN,gO,gP,gQ,gR,gS,gT,gU,gV,gW,gX,gY,gZ,hA,hB,.int .i64 x38,hD,hE,hF,hG,hH,hI,hJ,hK,hL,hM,hN,hO,hP,hQ,hR,hS,hT,hU,hV,hW,hX,hY,hZ,h0,h1,h2,h3,h4,h5,h6,h7,h8,h9,jA,jB,jC,jD,jE,jF,jG,jH,jI,jJ] M K=K #[g0,g1,g2,g3,g4,g5,g6,g7,g8,g9,gA,gB,gC,gD,gE,gF,gG,gH,gI,gJ,gK,gL,gM,gN,gO,gP,gQ,gR,gS,gT,gU,gV,gW,gX,gY,gZ,hA,hB,.int .i64 (IntKind.i64.wrap (x38+1)),hD,hE,hF,hG,hH,hI,hJ,hK,hL,hM,hN,hO,hP,hQ,hR,hS,hT,hU,hV,hW,hX,hY,hZ,h0,h1,h2,h3,h4,h5,h6,h7,h8,h9,jA,jB,jC,jD,jE,jF,jG,jH,.int .i64 (IntKind.i64.wrap (x38+1)),jJ] M:=by kernel_rfl
noncomputable def S16_1:List Item:=[.code (P16 [1,1,1,0,1]),.code (P16 [1,1,1,1])]
def A16_1 (Y8:Option Addr) (l8 y8:Nat) (Y10:Option Addr) (l10 y10:Nat) (x34:Bool) (M:Mem) (Q:Value→Mem→Prop):Prop:=∀ (g0 g1 g2 g3 g4 g5 g6 g7 g9 gB gC gD gE gF gG gH gI gJ gK gL gM gN gO gP gQ gR gS gT gU gV gW gX gZ hA hB hC hD hE hF hG hH hI hJ hK hL hM hN hO hP hQ hR hS hT hU hV hW hX hY hZ h0 h1 h2 h3 h4 h5 h6 h7 h8 h9 jA jB jC jD jE jF jG jH jI jJ:Value),Rn Try.prog Try.f16 S16_1 #[g0,g1,g2,g3,g4,g5,g6,g7,.slice Y8 l8 y8,g9,.slice Y10 l10 y10,gB,gC,gD,gE,gF,gG,gH,gI,gJ,gK,gL,gM,gN,gO,gP,gQ,gR,gS,gT,gU,gV,gW,gX,.bool x34,gZ,hA,hB,hC,hD,hE,hF,hG,hH,hI,hJ,hK,hL,hM,hN,hO,hP,hQ,hR,hS,hT,hU,hV,hW,hX,hY,hZ,h0,h1,h2,h3,h4,h5,h6,h7,h8,h9,jA,jB,jC,jD,jE,jF,jG,jH,jI,jJ] M Q
noncomputable def S16_2:List Item:=[.code (P16 [1,1,1,1,1,0,1,0,0]),.inLoop (P16 [1,1,1,1,1,0,1,0,0]),.inBlock 0,.code (P16 [1,1,1,1,1,1])]
def A16_2 (Y8:Option Addr) (l8 y8:Nat) (Y10:Option Addr) (l10 y10:Nat) (Y12:Option Addr) (l12 y12:Nat) (x37 x38:Int) (M:Mem) (Q:Value→Mem→Prop):Prop:=∀ (g0 g1 g2 g3 g4 g5 g6 g7 g9 gB gD gE gF gG gH gI gJ gK gL gM gN gO gP gQ gR gS gT gU gV gW gX gY gZ hA hD hE hF hG hH hI hJ hK hL hM hN hO hP hQ hR hS hT hU hV hW hX hY hZ h0 h1 h2 h3 h4 h5 h6 h7 h8 h9 jA jB jC jD jE jF jG jH jI jJ:Value),Rn Try.prog Try.f16 S16_2 #[g0,g1,g2,g3,g4,g5,g6,g7,.slice Y8 l8 y8,g9,.slice Y10 l10 y10,gB,.slice Y12 l12 y12,gD,gE,gF,gG,gH,gI,gJ,gK,gL,gM,gN,gO,gP,gQ,gR,gS,gT,gU,gV,gW,gX,gY,gZ,hA,.int .i64 x37,.int .i64 x38,hD,hE,hF,hG,hH,hI,hJ,hK,hL,hM,hN,hO,hP,hQ,hR,hS,hT,hU,hV,hW,hX,hY,hZ,h0,h1,h2,h3,h4,h5,h6,h7,h8,h9,jA,jB,jC,jD,jE,jF,jG,jH,jI,jJ] M Q
noncomputable def S16_3:List Item:=[.code (P16 [1,1,1,1,1,0,1,0,0,1,1,0,0,1,1,0,0]),.inLoop (P16 [1,1,1,1,1,0,1,0,0,1,1,0,0,1,1,0,0]),.inBlock 2,.inBlock 1,.code (P16 [1,1,1,1,1,0,1,0,0,1,1,1]),.inLoop (P16 [1,1,1,1,1,0,1,0,0]),.inBlock 0,.code (P16 [1,1,1,1,1,1])]
def A16_3 (Y8:Option Addr) (l8 y8:Nat) (Y10:Option Addr) (l10 y10:Nat) (Y12:Option Addr) (l12 y12:Nat) (x13 x37 x38 x43 x44:Int) (M:Mem) (Q:Value→Mem→Prop):Prop:=∀ (g0 g1 g2 g3 g4 g5 g6 g7 g9 gB gE gF gG gH gI gJ gK gL gM gN gO gP gQ gR gS gT gU gV gW gX gY gZ hA hD hE hF hG hJ hK hL hM hN hO hP hQ hR hS hT hU hV hW hX hY hZ h0 h1 h2 h3 h4 h5 h6 h7 h8 h9 jA jB jC jD jE jF jG jH jI jJ:Value),Rn Try.prog Try.f16 S16_3 #[g0,g1,g2,g3,g4,g5,g6,g7,.slice Y8 l8 y8,g9,.slice Y10 l10 y10,gB,.slice Y12 l12 y12,.int .i64 x13,gE,gF,gG,gH,gI,gJ,gK,gL,gM,gN,gO,gP,gQ,gR,gS,gT,gU,gV,gW,gX,gY,gZ,hA,.int .i64 x37,.int .i64 x38,hD,hE,hF,hG,.int .i64 x43,.int .i64 x44,hJ,hK,hL,hM,hN,hO,hP,hQ,hR,hS,hT,hU,hV,hW,hX,hY,hZ,h0,h1,h2,h3,h4,h5,h6,h7,h8,h9,jA,jB,jC,jD,jE,jF,jG,jH,jI,jJ] M Q
theorem w16_0 {x0_0 x0_1 x1 x2:Int} {M:Mem} {Q:Value→Mem→Prop} (H :
 ∃x1',(M.new (.cells #[.int .i64 x0_0,.int .i64 x0_1] 32)).intAt .i64 (2*M.nb.size) 0=some x1'∧
 Cn Try.prog 31 #[.int .i64 x1',.int .i64 x1] (M.new (.cells #[.int .i64 x0_0,.int .i64 x0_1] 32)) fun v2' N2'=>
 ∃cs3',asU 2 v2'=some cs3'∧
 ∃s4',asS (cs3'.getD 0 undef)=some s4'∧
 ∃b5',asB (cs3'.getD 1 undef)=some b5'∧
 ∃x6',N2'.intAt .i64 (2*M.nb.size) (0+1)=some x6'∧
 Cn Try.prog 31 #[.int .i64 x6',.int .i64 x2] N2' fun v7' N7'=>
 ∃cs8',asU 2 v7'=some cs8'∧
 ∃s9',asS (cs8'.getD 0 undef)=some s9'∧
 ∃b10',asB (cs8'.getD 1 undef)=some b10'∧
 (((!b5')=true→
 A16_1 s4'.1 s4'.2.1 s4'.2.2 s9'.1 s9'.2.1 s9'.2.2 true N7' Q)∧
 ((!b5')=false→
 A16_1 s4'.1 s4'.2.1 s4'.2.2 s9'.1 s9'.2.1 s9'.2.2 (!b10') N7' Q))):
 Cn Try.prog 16 #[.agg #[.int .i64 x0_0,.int .i64 x0_1],.int .i64 x1,.int .i64 x2] M Q:=by
  refine Cn.of b16 d16 t16 ?_
  refine Rn.seq k16_0 (Rn.region k16_1 (fun call K=>r16_0) (Rch.leaf (Rn.seq k16_2 (Rn.region k16_3 (fun call K=>r16_1) (Rch.bind (x:=⟨2*M.nb.size,0,none⟩) rfl (Rch.ex H fun x1' H=>Rch.call H fun v2' N2' H=>Rch.ex H fun cs3' H=>Rch.ex H fun s4' H=>Rch.ex H fun b5' H=>Rch.leaf ?_))))))
  refine Rn.seq k16_4 (Rn.region k16_5 (fun call K=>r16_2) (Rch.bind (x:=⟨2*M.nb.size,0,none⟩) rfl (Rch.ex H fun x6' H=>Rch.call H fun v7' N7' H=>Rch.ex H fun cs8' H=>Rch.ex H fun s9' H=>Rch.ex H fun b10' H=>Rch.leaf (Rn.seq k16_6 (Rn.seq k16_7 (Rn.region k16_8 (fun call K=>r16_3) ?_))))))
  refine Rch.cB (fun h=>?_) (fun h=>?_)
  · replace H:=H.1 (h)
    refine Rch.leaf ?_
    exact H ..
  · replace H:=H.2 (h)
    refine Rch.leaf ?_
    exact H ..
theorem w16_1 {Y8:Option Addr} {l8 y8:Nat} {Y10:Option Addr} {l10 y10:Nat} {x34:Bool} {M:Mem} {Q:Value→Mem→Prop} (H :
 ((x34=true→
 Q (.tuple #[.slice none 0 0,.int .i64 2]) M)∧
 (x34=false→
 A16_2 Y8 l8 y8 Y10 l10 y10 none 0 0 (IntKind.i64.wrap (((l10:Int))-1)) 0 M Q))):
 A16_1 Y8 l8 y8 Y10 l10 y10 x34 M Q:=by
  iterate 79 intro _
  refine Rn.cnd (v:=x34) ⟨c16_9,rfl,by kernel_rfl⟩ (fun h=>?_) (fun h=>?_)
  · replace H:=H.1 (h)
    refine Rn.seq k16_10 (Rn.region k16_11 (fun call K=>r16_4) (Rch.leaf ?_))
    exact Rn.ret k16_12 e16 H
  · replace H:=H.2 (h)
    refine Rn.skip k16_14 (Rn.seq k16_15 (Rn.region k16_16 (fun call K=>r16_5) (Rch.leaf (Rn.seq k16_17 (Rn.seq k16_18 (Rn.region k16_19 (fun call K=>r16_6) (Rch.leaf (Rn.block k16_20 (Rn.loop k16_21 ?_)))))))))
    exact H ..
theorem w16_2 {Y8:Option Addr} {l8 y8:Nat} {Y10:Option Addr} {l10 y10:Nat} {Y12:Option Addr} {l12 y12:Nat} {x37 x38:Int} {M:Mem} {Q:Value→Mem→Prop} (H :
 ((x38<x37→
 A16_3 Y8 l8 y8 Y10 l10 y10 Y12 l12 y12 x38 x37 x38 (IntKind.i64.wrap (((l8:Int))-1)) 0 M Q)∧
 (¬(x38<x37)→
 Q (.tuple #[.slice Y12 l12 y12,.int .i64 0]) M))):
 A16_2 Y8 l8 y8 Y10 l10 y10 Y12 l12 y12 x37 x38 M Q:=by
  iterate 77 intro _
  refine Rn.seq k16_22 (Rn.region k16_23 (fun call K=>r16_7) (Rch.leaf (Rn.seq k16_24 ?_)))
  refine Rn.cnd (v:=decide (x38<x37)) ⟨c16_25,rfl,by kernel_rfl⟩ (fun h=>?_) (fun h=>?_)
  · replace H:=H.1 (of_decide_eq_true h)
    refine Rn.skip k16_26 (Rn.seq k16_27 (Rn.block k16_28 (Rn.seq k16_29 (Rn.region k16_30 (fun call K=>r16_8) (Rch.leaf (Rn.seq k16_31 (Rn.region k16_32 (fun call K=>r16_9) (Rch.leaf (Rn.block k16_33 (Rn.loop k16_34 ?_))))))))))
    exact H ..
  · replace H:=H.2 (of_decide_eq_false h)
    refine Rn.exit k16_35 rfl (Rn.seq k16_36 (Rn.region k16_37 (fun call K=>r16_15) (Rch.leaf ?_)))
    exact Rn.ret k16_38 e16 H
theorem w16_3 {Y8:Option Addr} {l8 y8:Nat} {Y10:Option Addr} {l10 y10:Nat} {Y12:Option Addr} {l12 y12:Nat} {x13 x37 x38 x43 x44:Int} {M:Mem} {Q:Value→Mem→Prop} (H :
 ((x44<x43→
 ∃a11',idxA Y8 l8 1 x44=some a11'∧
 ∃x12',M.intAt .i64 a11'.block a11'.off=some x12'∧
 ∃a13',idxA Y10 l10 1 x13=some a13'∧
 ∃x14',M.intAt .i64 a13'.block a13'.off=some x14'∧
 ∃a15',idxA Y8 l8 1 (IntKind.i64.wrap (x44+1))=some a15'∧
 ∃x16',M.intAt .i64 a15'.block a15'.off=some x16'∧
 ∃a17',idxA Y8 l8 1 x44=some a17'∧
 ∃x18',M.intAt .i64 a17'.block a17'.off=some x18'∧
 ∃a19',idxA Y10 l10 1 (IntKind.i64.wrap (x13+1))=some a19'∧
 ∃x20',M.intAt .i64 a19'.block a19'.off=some x20'∧
 ∃a21',idxA Y10 l10 1 x13=some a21'∧
 ∃x22',M.intAt .i64 a21'.block a21'.off=some x22'∧
 ∃r23',appendP Try.prog #[36,36] (.slice Y12 l12 y12) (.slice (some ⟨2*M.nb.size,0,none⟩) 1 1) (M.new (.cells #[.int .i64 x12',.int .i64 x14',.int .i64 (IntKind.i64.wrap (x16'-x18')),.int .i64 (IntKind.i64.wrap (x20'-x22'))] 35))=some r23'∧
 ∃s24',asS r23'.1=some s24'∧
 A16_3 Y8 l8 y8 Y10 l10 y10 s24'.1 s24'.2.1 s24'.2.2 x13 x37 x38 x43 (IntKind.i64.wrap (x44+1)) r23'.2 Q)∧
 (¬(x44<x43)→
 A16_2 Y8 l8 y8 Y10 l10 y10 Y12 l12 y12 x37 (IntKind.i64.wrap (x38+1)) M Q))):
 A16_3 Y8 l8 y8 Y10 l10 y10 Y12 l12 y12 x13 x37 x38 x43 x44 M Q:=by
  iterate 74 intro _
  refine Rn.seq k16_39 (Rn.region k16_40 (fun call K=>r16_10) (Rch.leaf (Rn.seq k16_41 ?_)))
  refine Rn.cnd (v:=decide (x44<x43)) ⟨c16_42,rfl,by kernel_rfl⟩ (fun h=>?_) (fun h=>?_)
  · replace H:=H.1 (of_decide_eq_true h)
    refine Rn.skip k16_43 (Rn.seq k16_44 (Rn.block k16_45 (Rn.seq k16_46 (Rn.region k16_47 (fun call K=>r16_11) (Rch.leaf (Rn.regionD k16_48 (fun call K=>r16_12) (Rch.ex H fun a11' H=>Rch.ex H fun x12' H=>Rch.ex H fun a13' H=>Rch.ex H fun x14' H=>Rch.ex H fun a15' H=>?_)))))))
    refine Rch.ex H fun x16' H=>Rch.ex H fun a17' H=>Rch.ex H fun x18' H=>Rch.ex H fun a19' H=>Rch.ex H fun x20' H=>Rch.ex H fun a21' H=>Rch.ex H fun x22' H=>Rch.ex H fun r23' H=>Rch.ex H fun s24' H=>Rch.leaf (Rn.blk (Rn.region k16_49 (fun call K=>r16_13) ?_))
    refine Rch.leaf (Rn.lp ?_)
    exact H ..
  · replace H:=H.2 (of_decide_eq_false h)
    refine Rn.exit k16_50 rfl (Rn.blk (Rn.region k16_51 (fun call K=>r16_14) (Rch.leaf (Rn.lp ?_))))
    exact H ..
noncomputable abbrev P32 (p:List Nat):Code:=subC (codeOf Try.f32) p
noncomputable abbrev O32 (p:List Nat):Array Oper:=opsOf (subC (codeOf Try.f32) p)
theorem b32:Try.prog.funcs[32]?=some Try.f32∧(Orc.tab Try.prog).lookup 32=none:=⟨by kernel_rfl,by kernel_rfl⟩
theorem d32:Try.f32.body=some (P32 []):=by kernel_rfl
theorem t32 {x0:Int}:#[.int .i64 x0] ++ Array.replicate (Try.f32.ntmps-(#[.int .i64 x0]:Array Value).size) undef=#[.int .i64 x0,undef,undef,undef,undef,undef,undef,undef,undef,undef,undef,undef,undef,undef]:=by kernel_rfl
theorem k32_0:P32 []=.seq (P32 [0]) (P32 [1]):=by kernel_rfl
theorem k32_1:P32 [0]=.region 0 (O32 [0]) false:=by kernel_rfl
theorem r32_0 {M:Mem} {call:CallM} {K:Array Value→Mem→R} :
 opsK Try.prog (fun _=>call) (O32 [0]) (O32 [0]).toList 0 #[g0,g1,g2,g3,g4,g5,g6,g7,g8,g9,gA,gB,gC,gD] M K=K #[g0,g1,.bool false,g3,g4,g5,g6,g7,g8,g9,gA,gB,gC,gD] M:=by kernel_rfl
theorem k32_2:P32 [1]=.seq (P32 [1,0]) (P32 [1,1]):=by kernel_rfl
theorem k32_3:P32 [1,0]=.region 1 (O32 [1,0]) false:=by kernel_rfl
theorem r32_1 {x0:Int} {M:Mem} {call:CallM} {K:Array Value→Mem→R} :
 opsK Try.prog (fun _=>call) (O32 [1,0]) (O32 [1,0]).toList 0 #[.int .i64 x0,g1,g2,g3,g4,g5,g6,g7,g8,g9,gA,gB,gC,gD] M K=withK (fun w2 w5 w6 w7 w8 w9 w10 w11 w12 w13 M=>K #[.int .i64 x0,g1,w2,.int .i64 x0,.bool (decide (x0≥16)),w5,w6,w7,w8,w9,w10,w11,w12,w13] M) fun k=>cond (decide (x0≥16)) (cond (decide (x0≤256)) (k (.bool ((x0.tmod 2) == 0)) (.bool true) (.int .i64 x0) (.bool (decide (x0≤256))) (.bool (decide (x0≤256))) (.bool true) (.int .i64 x0) (.int .i64 (x0.tmod 2)) (.bool ((x0.tmod 2) == 0)) (.bool ((x0.tmod 2) == 0)) M) (k (.bool false) (.bool true) (.int .i64 x0) (.bool (decide (x0≤256))) (.bool (decide (x0≤256))) (.bool false) undef undef undef (.bool false) M)) (k (.bool false) (.bool false) undef undef (.bool false) (.bool false) undef undef undef (.bool false) M):=by kernel_rfl
theorem k32_4:P32 [1,1]=.ret:=by kernel_rfl
theorem e32 {M:Mem}:finish Try.prog Try.f32 #[g0,g1,g2,g3,g4,g5,g6,g7,g8,g9,gA,gB,gC,gD] M=some (g2,M):=by kernel_rfl
theorem w32_0 {x0:Int} {M:Mem} {Q:Value→Mem→Prop} (H :
 ((x0≥16→
 ((x0≤256→
 Q (.bool ((x0.tmod 2) == 0)) M)∧
 (¬(x0≤256)→
 Q (.bool false) M)))∧
 (¬(x0≥16)→
 Q (.bool false) M))):
 Cn Try.prog 32 #[.int .i64 x0] M Q:=by
  refine Cn.of b32 d32 t32 ?_
  refine Rn.seq k32_0 (Rn.region k32_1 (fun call K=>r32_0) (Rch.leaf (Rn.seq k32_2 (Rn.region k32_3 (fun call K=>r32_1) ?_))))
  refine Rch.cB (fun h=>?_) (fun h=>?_)
  · replace H:=H.1 (of_decide_eq_true h)
    refine Rch.cB (fun h=>?_) (fun h=>?_)
    · replace H:=H.1 (of_decide_eq_true h)
      refine Rch.leaf ?_
      exact Rn.ret k32_4 e32 H
    · replace H:=H.2 (of_decide_eq_false h)
      refine Rch.leaf ?_
      exact Rn.ret k32_4 e32 H
  · replace H:=H.2 (of_decide_eq_false h)
    refine Rch.leaf ?_
    exact Rn.ret k32_4 e32 H
noncomputable abbrev P33 (p:List Nat):Code:=subC (codeOf Try.f33) p
noncomputable abbrev O33 (p:List Nat):Array Oper:=opsOf (subC (codeOf Try.f33) p)
theorem b33:Try.prog.funcs[33]?=some Try.f33∧(Orc.tab Try.prog).lookup 33=none:=⟨by kernel_rfl,by kernel_rfl⟩
theorem d33:Try.f33.body=some (P33 []):=by kernel_rfl
theorem t33 {x0:Int}:#[.int .i64 x0] ++ Array.replicate (Try.f33.ntmps-(#[.int .i64 x0]:Array Value).size) undef=#[.int .i64 x0,undef,undef,undef,undef,undef]:=by kernel_rfl
theorem k33_0:P33 []=.seq (P33 [0]) (P33 [1]):=by kernel_rfl
theorem k33_1:P33 [0]=.region 0 (O33 [0]) false:=by kernel_rfl
theorem r33_0 {M:Mem} {call:CallM} {K:Array Value→Mem→R} :
 opsK Try.prog (fun _=>call) (O33 [0]) (O33 [0]).toList 0 #[g0,g1,g2,g3,g4,g5] M K=K #[g0,g1,.int .i64 0,g3,g4,g5] M:=by kernel_rfl
theorem k33_2:P33 [1]=.seq (P33 [1,0]) (P33 [1,1]):=by kernel_rfl
theorem k33_3:P33 [1,0]=.region 1 (O33 [1,0]) false:=by kernel_rfl
theorem r33_1 {x0:Int} {M:Mem} {call:CallM} {K:Array Value→Mem→R} :
 opsK Try.prog (fun _=>call) (O33 [1,0]) (O33 [1,0]).toList 0 #[.int .i64 x0,g1,g2,g3,g4,g5] M K=K #[.int .i64 x0,g1,.int .i64 (IntKind.i64.wrap ((IntKind.i64.wrap (x0+63)).tdiv 64)),.int .i64 x0,.int .i64 (IntKind.i64.wrap (x0+63)),.int .i64 (IntKind.i64.wrap ((IntKind.i64.wrap (x0+63)).tdiv 64))] M:=by kernel_rfl
theorem k33_4:P33 [1,1]=.ret:=by kernel_rfl
theorem e33 {M:Mem}:finish Try.prog Try.f33 #[g0,g1,g2,g3,g4,g5] M=some (g2,M):=by kernel_rfl
theorem w33_0 {x0:Int} {M:Mem} {Q:Value→Mem→Prop} (H :
 Q (.int .i64 (IntKind.i64.wrap ((IntKind.i64.wrap (x0+63)).tdiv 64))) M):
 Cn Try.prog 33 #[.int .i64 x0] M Q:=by
  refine Cn.of b33 d33 t33 ?_
  refine Rn.seq k33_0 (Rn.region k33_1 (fun call K=>r33_0) (Rch.leaf (Rn.seq k33_2 (Rn.region k33_3 (fun call K=>r33_1) (Rch.leaf ?_)))))
  exact Rn.ret k33_4 e33 H
noncomputable abbrev P34 (p:List Nat):Code:=subC (codeOf Try.f34) p
noncomputable abbrev O34 (p:List Nat):Array Oper:=opsOf (subC (codeOf Try.f34) p)
theorem b34:Try.prog.funcs[34]?=some Try.f34∧(Orc.tab Try.prog).lookup 34=none:=⟨by kernel_rfl,by kernel_rfl⟩
theorem d34:Try.f34.body=some (P34 []):=by kernel_rfl
theorem t34 {x0:Int}:#[.int .i64 x0] ++ Array.replicate (Try.f34.ntmps-(#[.int .i64 x0]:Array Value).size) undef=#[.int .i64 x0,undef,undef,undef,undef,undef,undef]:=by kernel_rfl
theorem k34_0:P34 []=.seq (P34 [0]) (P34 [1]):=by kernel_rfl
theorem k34_1:P34 [0]=.region 0 (O34 [0]) false:=by kernel_rfl
theorem r34_0 {M:Mem} {call:CallM} {K:Array Value→Mem→R} :
 opsK Try.prog (fun _=>call) (O34 [0]) (O34 [0]).toList 0 #[g0,g1,g2,g3,g4,g5,g6] M K=K #[g0,g1,.int .i64 0,g3,g4,g5,g6] M:=by kernel_rfl
theorem k34_2:P34 [1]=.seq (P34 [1,0]) (P34 [1,1]):=by kernel_rfl
theorem k34_3:P34 [1,0]=.region 1 (O34 [1,0]) false:=by kernel_rfl
theorem r34_1 {x0:Int} {M:Mem} {call:CallM} {K:Array Value→Mem→R} :
 opsK Try.prog (fun _=>call) (O34 [1,0]) (O34 [1,0]).toList 0 #[.int .i64 x0,g1,g2,g3,g4,g5,g6] M K=K #[.int .i64 x0,g1,.int .i64 (IntKind.i64.wrap ((IntKind.i64.wrap ((IntKind.i64.wrap (x0+7)).tdiv 8))*8)),.int .i64 x0,.int .i64 (IntKind.i64.wrap (x0+7)),.int .i64 (IntKind.i64.wrap ((IntKind.i64.wrap (x0+7)).tdiv 8)),.int .i64 (IntKind.i64.wrap ((IntKind.i64.wrap ((IntKind.i64.wrap (x0+7)).tdiv 8))*8))] M:=by kernel_rfl
theorem k34_4:P34 [1,1]=.ret:=by kernel_rfl
theorem e34 {M:Mem}:finish Try.prog Try.f34 #[g0,g1,g2,g3,g4,g5,g6] M=some (g2,M):=by kernel_rfl
theorem w34_0 {x0:Int} {M:Mem} {Q:Value→Mem→Prop} (H :
 Q (.int .i64 (IntKind.i64.wrap ((IntKind.i64.wrap ((IntKind.i64.wrap (x0+7)).tdiv 8))*8))) M):
 Cn Try.prog 34 #[.int .i64 x0] M Q:=by
  refine Cn.of b34 d34 t34 ?_
  refine Rn.seq k34_0 (Rn.region k34_1 (fun call K=>r34_0) (Rch.leaf (Rn.seq k34_2 (Rn.region k34_3 (fun call K=>r34_1) (Rch.leaf ?_)))))
  exact Rn.ret k34_4 e34 H
noncomputable abbrev P17 (p:List Nat):Code:=subC (codeOf Try.f17) p
noncomputable abbrev O17 (p:List Nat):Array Oper:=opsOf (subC (codeOf Try.f17) p)
theorem b17:Try.prog.funcs[17]?=some Try.f17∧(Orc.tab Try.prog).lookup 17=none:=⟨by kernel_rfl,by kernel_rfl⟩
theorem d17:Try.f17.body=some (P17 []):=by kernel_rfl
theorem t17 {x0_0 x0_1 x1 x2:Int}:#[.agg #[.int .i64 x0_0,.int .i64 x0_1],.int .i64 x1,.int .i64 x2] ++ Array.replicate (Try.f17.ntmps-(#[.agg #[.int .i64 x0_0,.int .i64 x0_1],.int .i64 x1,.int .i64 x2]:Array Value).size) undef=#[.agg #[.int .i64 x0_0,.int .i64 x0_1],.int .i64 x1,.int .i64 x2,undef,undef,undef,undef,undef,undef,undef,undef,undef,undef,undef,undef,undef,undef,undef,undef,undef,undef,undef,undef,undef,undef,undef,undef,undef,undef,undef,undef,undef,undef,undef,undef,undef,undef,undef,undef,undef,undef,undef,undef,undef,undef,undef,undef,undef,undef,undef,undef,undef,undef,undef,undef,undef,undef,undef,undef,undef,undef,undef,undef,undef,undef,undef,undef,undef,undef,undef,undef,undef,undef,undef,undef,undef,undef,undef,undef,undef,undef,undef,undef,undef,undef,undef,undef,undef,undef,undef,undef,undef,undef,undef,undef,undef,undef,undef,undef,undef,undef,undef,undef,undef,undef,undef,undef,undef,undef,undef,undef,undef,undef,undef,undef,undef,undef,undef,undef,undef,undef,undef,undef,undef,undef,undef,undef,undef]:=by kernel_rfl
theorem k17_0:P17 []=.seq (P17 [0]) (P17 [1]):=by kernel_rfl
theorem k17_1:P17 [0]=.region 0 (O17 [0]) false:=by kernel_rfl
theorem r17_0 {x0_0 x0_1:Int} {M:Mem} {call:CallM} {K:Array Value→Mem→R} :
 opsK Try.prog (fun _=>call) (O17 [0]) (O17 [0]).toList 0 #[.agg #[.int .i64 x0_0,.int .i64 x0_1],g1,g2,g3,g4,g5,g6,g7,g8,g9,gA,gB,gC,gD,gE,gF,gG,gH,gI,gJ,gK,gL,gM,gN,gO,gP,gQ,gR,gS,gT,gU,gV,gW,gX,gY,gZ,hA,hB,hC,hD,hE,hF,hG,hH,hI,hJ,hK,hL,hM,hN,hO,hP,hQ,hR,hS,hT,hU,hV,hW,hX,hY,hZ,h0,h1,h2,h3,h4,h5,h6,h7,h8,h9,jA,jB,jC,jD,jE,jF,jG,jH,jI,jJ,jK,jL,jM,jN,jO,jP,jQ,jR,jS,jT,jU,jV,jW,jX,jY,jZ,j0,j1,j2,j3,j4,j5,j6,j7,j8,j9,kA,kB,kC,kD,kE,kF,kG,kH,kI,kJ,kK,kL,kM,kN,kO,kP,kQ,kR,kS,kT] M K=K #[.agg #[.int .i64 x0_0,.int .i64 x0_1],g1,g2,.pointer (some ⟨2*M.nb.size,0,none⟩),g4,g5,.slice none 0 0,.int .i64 0,g8,g9,gA,gB,gC,gD,gE,gF,gG,gH,gI,gJ,gK,gL,gM,gN,gO,gP,gQ,gR,gS,gT,gU,gV,gW,gX,gY,gZ,hA,hB,hC,hD,hE,hF,hG,hH,hI,hJ,hK,hL,hM,hN,hO,hP,hQ,hR,hS,hT,hU,hV,hW,hX,hY,hZ,h0,h1,h2,h3,h4,h5,h6,h7,h8,h9,jA,jB,jC,jD,jE,jF,jG,jH,jI,jJ,jK,jL,jM,jN,jO,jP,jQ,jR,jS,jT,jU,jV,jW,jX,jY,jZ,j0,j1,j2,j3,j4,j5,j6,j7,j8,j9,kA,kB,kC,kD,kE,kF,kG,kH,kI,kJ,kK,kL,kM,kN,kO,kP,kQ,kR,kS,kT] (M.new (.cells #[.int .i64 x0_0,.int .i64 x0_1] 32)):=by kernel_rfl
theorem k17_2:P17 [1]=.seq (P17 [1,0]) (P17 [1,1]):=by kernel_rfl
theorem k17_3:P17 [1,0]=.seq (P17 [1,0,0]) (P17 [1,0,1]):=by kernel_rfl
theorem k17_5:P17 [1,0,0]=.region 1 (O17 [1,0,0]) true∧(!true || drawOk (O17 [1,0,0]))=true:=⟨by kernel_rfl,by kernel_rfl⟩
theorem r17_1p0 {x3:Option Addr} {M:Mem} {call:CallM} {K:Array Value→Mem→R} :
 segK Try.prog true call (O17 [1,0,0]) 0 11 #[g0,g1,g2,.pointer x3,g4,g5,g6,g7,g8,g9,gA,gB,gC,gD,gE,gF,gG,gH,gI,gJ,gK,gL,gM,gN,gO,gP,gQ,gR,gS,gT,gU,gV,gW,gX,gY,gZ,hA,hB,hC,hD,hE,hF,hG,hH,hI,hJ,hK,hL,hM,hN,hO,hP,hQ,hR,hS,hT,hU,hV,hW,hX,hY,hZ,h0,h1,h2,h3,h4,h5,h6,h7,h8,h9,jA,jB,jC,jD,jE,jF,jG,jH,jI,jJ,jK,jL,jM,jN,jO,jP,jQ,jR,jS,jT,jU,jV,jW,jX,jY,jZ,j0,j1,j2,j3,j4,j5,j6,j7,j8,j9,kA,kB,kC,kD,kE,kF,kG,kH,kI,kJ,kK,kL,kM,kN,kO,kP,kQ,kR,kS,kT] M K=withK (fun w15 w16 w17 w18 w19 w20 w21 w22 w23 w24 w25 M=>K #[g0,g1,g2,.pointer x3,g4,g5,g6,g7,g8,g9,gA,gB,gC,gD,gE,w15,w16,w17,w18,w19,w20,w21,w22,w23,w24,w25,gQ,gR,gS,gT,gU,gV,gW,gX,gY,gZ,hA,hB,hC,hD,hE,hF,hG,hH,hI,hJ,hK,hL,hM,hN,hO,hP,hQ,hR,hS,hT,hU,hV,hW,hX,hY,hZ,h0,h1,h2,h3,h4,h5,h6,h7,h8,h9,jA,jB,jC,jD,jE,jF,jG,jH,jI,jJ,jK,jL,jM,jN,jO,jP,jQ,jR,jS,jT,jU,jV,jW,jX,jY,jZ,j0,j1,j2,j3,j4,j5,j6,j7,j8,j9,kA,kB,kC,kD,kE,kF,kG,kH,kI,kJ,kK,kL,kM,kN,kO,kP,kQ,kR,kS,kT] M) fun k=>(x3).bind fun a_1=>(M.intAt .i64 a_1.block a_1.off).bind fun x_2=>(call 32 #[.int .i64 x_2] M).bind fun r_3=>(asB r_3.1).bind fun b_4=>cond (!b_4) (k (.pointer (some ⟨a_1.block,a_1.off,none⟩)) (.int .i64 x_2) (.bool b_4) (.bool (!b_4)) (.bool true) undef undef undef undef (.bool true) (.bool true) r_3.2) ((x3).bind fun a_5=>(r_3.2.intAt .i64 a_5.block (a_5.off+1)).bind fun x_6=>(call 32 #[.int .i64 x_6] r_3.2).bind fun r_7=>(asB r_7.1).bind fun b_8=>k (.pointer (some ⟨a_1.block,a_1.off,none⟩)) (.int .i64 x_2) (.bool b_4) (.bool (!b_4)) (.bool false) (.pointer (some ⟨a_5.block,a_5.off+1,none⟩)) (.int .i64 x_6) (.bool b_8) (.bool (!b_8)) (.bool (!b_8)) (.bool (!b_8)) r_7.2):=by kernel_rfl
theorem r17_1p11 {x1:Int} {x25:Bool} {M:Mem} {call:CallM} {K:Array Value→Mem→R} :
 segK Try.prog true call (O17 [1,0,0]) 11 4 #[g0,.int .i64 x1,g2,g3,g4,g5,g6,g7,g8,g9,gA,gB,gC,gD,gE,gF,gG,gH,gI,gJ,gK,gL,gM,gN,gO,.bool x25,gQ,gR,gS,gT,gU,gV,gW,gX,gY,gZ,hA,hB,hC,hD,hE,hF,hG,hH,hI,hJ,hK,hL,hM,hN,hO,hP,hQ,hR,hS,hT,hU,hV,hW,hX,hY,hZ,h0,h1,h2,h3,h4,h5,h6,h7,h8,h9,jA,jB,jC,jD,jE,jF,jG,jH,jI,jJ,jK,jL,jM,jN,jO,jP,jQ,jR,jS,jT,jU,jV,jW,jX,jY,jZ,j0,j1,j2,j3,j4,j5,j6,j7,j8,j9,kA,kB,kC,kD,kE,kF,kG,kH,kI,kJ,kK,kL,kM,kN,kO,kP,kQ,kR,kS,kT] M K=withK (fun w25 w26 w27 w28 w29 M=>K #[g0,.int .i64 x1,g2,g3,g4,g5,g6,g7,g8,g9,gA,gB,gC,gD,gE,gF,gG,gH,gI,gJ,gK,gL,gM,gN,gO,w25,w26,w27,w28,w29,gU,gV,gW,gX,gY,gZ,hA,hB,hC,hD,hE,hF,hG,hH,hI,hJ,hK,hL,hM,hN,hO,hP,hQ,hR,hS,hT,hU,hV,hW,hX,hY,hZ,h0,h1,h2,h3,h4,h5,h6,h7,h8,h9,jA,jB,jC,jD,jE,jF,jG,jH,jI,jJ,jK,jL,jM,jN,jO,jP,jQ,jR,jS,jT,jU,jV,jW,jX,jY,jZ,j0,j1,j2,j3,j4,j5,j6,j7,j8,j9,kA,kB,kC,kD,kE,kF,kG,kH,kI,kJ,kK,kL,kM,kN,kO,kP,kQ,kR,kS,kT] M) fun k=>cond x25 (k (.bool true) undef undef (.bool true) (.bool true) M) (k (.bool false) (.int .i64 x1) (.bool (decide (x1<0))) (.bool (decide (x1<0))) (.bool (decide (x1<0))) M):=by kernel_rfl
theorem r17_1p15 {x1:Int} {x29:Bool} {M:Mem} {call:CallM} {K:Array Value→Mem→R} :
 segK Try.prog true call (O17 [1,0,0]) 15 4 #[g0,.int .i64 x1,g2,g3,g4,g5,g6,g7,g8,g9,gA,gB,gC,gD,gE,gF,gG,gH,gI,gJ,gK,gL,gM,gN,gO,gP,gQ,gR,gS,.bool x29,gU,gV,gW,gX,gY,gZ,hA,hB,hC,hD,hE,hF,hG,hH,hI,hJ,hK,hL,hM,hN,hO,hP,hQ,hR,hS,hT,hU,hV,hW,hX,hY,hZ,h0,h1,h2,h3,h4,h5,h6,h7,h8,h9,jA,jB,jC,jD,jE,jF,jG,jH,jI,jJ,jK,jL,jM,jN,jO,jP,jQ,jR,jS,jT,jU,jV,jW,jX,jY,jZ,j0,j1,j2,j3,j4,j5,j6,j7,j8,j9,kA,kB,kC,kD,kE,kF,kG,kH,kI,kJ,kK,kL,kM,kN,kO,kP,kQ,kR,kS,kT] M K=withK (fun w29 w30 w31 w32 w33 M=>K #[g0,.int .i64 x1,g2,g3,g4,g5,g6,g7,g8,g9,gA,gB,gC,gD,gE,gF,gG,gH,gI,gJ,gK,gL,gM,gN,gO,gP,gQ,gR,gS,w29,w30,w31,w32,w33,gY,gZ,hA,hB,hC,hD,hE,hF,hG,hH,hI,hJ,hK,hL,hM,hN,hO,hP,hQ,hR,hS,hT,hU,hV,hW,hX,hY,hZ,h0,h1,h2,h3,h4,h5,h6,h7,h8,h9,jA,jB,jC,jD,jE,jF,jG,jH,jI,jJ,jK,jL,jM,jN,jO,jP,jQ,jR,jS,jT,jU,jV,jW,jX,jY,jZ,j0,j1,j2,j3,j4,j5,j6,j7,j8,j9,kA,kB,kC,kD,kE,kF,kG,kH,kI,kJ,kK,kL,kM,kN,kO,kP,kQ,kR,kS,kT] M) fun k=>cond x29 (k (.bool true) undef undef (.bool true) (.bool true) M) (k (.bool false) (.int .i64 x1) (.bool (decide (x1>2))) (.bool (decide (x1>2))) (.bool (decide (x1>2))) M):=by kernel_rfl
theorem r17_1p19 {x2:Int} {x33:Bool} {M:Mem} {call:CallM} {K:Array Value→Mem→R} :
 segK Try.prog true call (O17 [1,0,0]) 19 4 #[g0,g1,.int .i64 x2,g3,g4,g5,g6,g7,g8,g9,gA,gB,gC,gD,gE,gF,gG,gH,gI,gJ,gK,gL,gM,gN,gO,gP,gQ,gR,gS,gT,gU,gV,gW,.bool x33,gY,gZ,hA,hB,hC,hD,hE,hF,hG,hH,hI,hJ,hK,hL,hM,hN,hO,hP,hQ,hR,hS,hT,hU,hV,hW,hX,hY,hZ,h0,h1,h2,h3,h4,h5,h6,h7,h8,h9,jA,jB,jC,jD,jE,jF,jG,jH,jI,jJ,jK,jL,jM,jN,jO,jP,jQ,jR,jS,jT,jU,jV,jW,jX,jY,jZ,j0,j1,j2,j3,j4,j5,j6,j7,j8,j9,kA,kB,kC,kD,kE,kF,kG,kH,kI,kJ,kK,kL,kM,kN,kO,kP,kQ,kR,kS,kT] M K=withK (fun w33 w34 w35 w36 w37 M=>K #[g0,g1,.int .i64 x2,g3,g4,g5,g6,g7,g8,g9,gA,gB,gC,gD,gE,gF,gG,gH,gI,gJ,gK,gL,gM,gN,gO,gP,gQ,gR,gS,gT,gU,gV,gW,w33,w34,w35,w36,w37,hC,hD,hE,hF,hG,hH,hI,hJ,hK,hL,hM,hN,hO,hP,hQ,hR,hS,hT,hU,hV,hW,hX,hY,hZ,h0,h1,h2,h3,h4,h5,h6,h7,h8,h9,jA,jB,jC,jD,jE,jF,jG,jH,jI,jJ,jK,jL,jM,jN,jO,jP,jQ,jR,jS,jT,jU,jV,jW,jX,jY,jZ,j0,j1,j2,j3,j4,j5,j6,j7,j8,j9,kA,kB,kC,kD,kE,kF,kG,kH,kI,kJ,kK,kL,kM,kN,kO,kP,kQ,kR,kS,kT] M) fun k=>cond x33 (k (.bool true) undef undef (.bool true) (.bool true) M) (k (.bool false) (.int .i64 x2) (.bool (decide (x2<0))) (.bool (decide (x2<0))) (.bool (decide (x2<0))) M):=by kernel_rfl
theorem r17_1p23 {x2:Int} {x37:Bool} {M:Mem} {call:CallM} {K:Array Value→Mem→R} :
 segK Try.prog true call (O17 [1,0,0]) 23 4 #[g0,g1,.int .i64 x2,g3,g4,g5,g6,g7,g8,g9,gA,gB,gC,gD,gE,gF,gG,gH,gI,gJ,gK,gL,gM,gN,gO,gP,gQ,gR,gS,gT,gU,gV,gW,gX,gY,gZ,hA,.bool x37,hC,hD,hE,hF,hG,hH,hI,hJ,hK,hL,hM,hN,hO,hP,hQ,hR,hS,hT,hU,hV,hW,hX,hY,hZ,h0,h1,h2,h3,h4,h5,h6,h7,h8,h9,jA,jB,jC,jD,jE,jF,jG,jH,jI,jJ,jK,jL,jM,jN,jO,jP,jQ,jR,jS,jT,jU,jV,jW,jX,jY,jZ,j0,j1,j2,j3,j4,j5,j6,j7,j8,j9,kA,kB,kC,kD,kE,kF,kG,kH,kI,kJ,kK,kL,kM,kN,kO,kP,kQ,kR,kS,kT] M K=withK (fun w37 w38 w39 w40 w41 M=>K #[g0,g1,.int .i64 x2,g3,g4,g5,g6,g7,g8,g9,gA,gB,gC,gD,gE,gF,gG,gH,gI,gJ,gK,gL,gM,gN,gO,gP,gQ,gR,gS,gT,gU,gV,gW,gX,gY,gZ,hA,w37,w38,w39,w40,w41,hG,hH,hI,hJ,hK,hL,hM,hN,hO,hP,hQ,hR,hS,hT,hU,hV,hW,hX,hY,hZ,h0,h1,h2,h3,h4,h5,h6,h7,h8,h9,jA,jB,jC,jD,jE,jF,jG,jH,jI,jJ,jK,jL,jM,jN,jO,jP,jQ,jR,jS,jT,jU,jV,jW,jX,jY,jZ,j0,j1,j2,j3,j4,j5,j6,j7,j8,j9,kA,kB,kC,kD,kE,kF,kG,kH,kI,kJ,kK,kL,kM,kN,kO,kP,kQ,kR,kS,kT] M) fun k=>cond x37 (k (.bool true) undef undef (.bool true) (.bool true) M) (k (.bool false) (.int .i64 x2) (.bool (decide (x2>2))) (.bool (decide (x2>2))) (.bool (decide (x2>2))) M):=by kernel_rfl
theorem r17_1p27 {x1:Int} {x3:Option Addr} {x41:Bool} {M:Mem} {call:CallM} {K:Array Value→Mem→R} :
 segK Try.prog true call (O17 [1,0,0]) 27 8 #[g0,.int .i64 x1,g2,.pointer x3,g4,g5,g6,g7,g8,g9,gA,gB,gC,gD,gE,gF,gG,gH,gI,gJ,gK,gL,gM,gN,gO,gP,gQ,gR,gS,gT,gU,gV,gW,gX,gY,gZ,hA,hB,hC,hD,hE,.bool x41,hG,hH,hI,hJ,hK,hL,hM,hN,hO,hP,hQ,hR,hS,hT,hU,hV,hW,hX,hY,hZ,h0,h1,h2,h3,h4,h5,h6,h7,h8,h9,jA,jB,jC,jD,jE,jF,jG,jH,jI,jJ,jK,jL,jM,jN,jO,jP,jQ,jR,jS,jT,jU,jV,jW,jX,jY,jZ,j0,j1,j2,j3,j4,j5,j6,j7,j8,j9,kA,kB,kC,kD,kE,kF,kG,kH,kI,kJ,kK,kL,kM,kN,kO,kP,kQ,kR,kS,kT] M K=withK (fun w41 w42 w43 w44 w45 w46 w47 w48 w49 M=>K #[g0,.int .i64 x1,g2,.pointer x3,g4,g5,g6,g7,g8,g9,gA,gB,gC,gD,gE,gF,gG,gH,gI,gJ,gK,gL,gM,gN,gO,gP,gQ,gR,gS,gT,gU,gV,gW,gX,gY,gZ,hA,hB,hC,hD,hE,w41,w42,w43,w44,w45,w46,w47,w48,w49,hO,hP,hQ,hR,hS,hT,hU,hV,hW,hX,hY,hZ,h0,h1,h2,h3,h4,h5,h6,h7,h8,h9,jA,jB,jC,jD,jE,jF,jG,jH,jI,jJ,jK,jL,jM,jN,jO,jP,jQ,jR,jS,jT,jU,jV,jW,jX,jY,jZ,j0,j1,j2,j3,j4,j5,j6,j7,j8,j9,kA,kB,kC,kD,kE,kF,kG,kH,kI,kJ,kK,kL,kM,kN,kO,kP,kQ,kR,kS,kT] M) fun k=>cond x41 (k (.bool true) undef undef undef undef undef undef (.bool true) (.bool true) M) ((binV Try.prog .shl 3 3 (.int .i64 1) (.int .i64 x1)).bind fun v_1=>(asI .i64 v_1).bind fun x_2=>(x3).bind fun a_3=>(M.intAt .i64 a_3.block a_3.off).bind fun x_4=>(call 33 #[.int .i64 x_4] M).bind fun r_5=>(asI .i64 r_5.1).bind fun x_6=>k (.bool false) (.int .i64 x1) (.int .i64 x_2) (.pointer (some ⟨a_3.block,a_3.off,none⟩)) (.int .i64 x_4) (.int .i64 x_6) (.bool (decide (x_2>x_6))) (.bool (decide (x_2>x_6))) (.bool (decide (x_2>x_6))) r_5.2):=by kernel_rfl
theorem r17_1p35 {x2:Int} {x3:Option Addr} {x49:Bool} {M:Mem} {call:CallM} {K:Array Value→Mem→R} :
 segK Try.prog true call (O17 [1,0,0]) 35 7 #[g0,g1,.int .i64 x2,.pointer x3,g4,g5,g6,g7,g8,g9,gA,gB,gC,gD,gE,gF,gG,gH,gI,gJ,gK,gL,gM,gN,gO,gP,gQ,gR,gS,gT,gU,gV,gW,gX,gY,gZ,hA,hB,hC,hD,hE,hF,hG,hH,hI,hJ,hK,hL,hM,.bool x49,hO,hP,hQ,hR,hS,hT,hU,hV,hW,hX,hY,hZ,h0,h1,h2,h3,h4,h5,h6,h7,h8,h9,jA,jB,jC,jD,jE,jF,jG,jH,jI,jJ,jK,jL,jM,jN,jO,jP,jQ,jR,jS,jT,jU,jV,jW,jX,jY,jZ,j0,j1,j2,j3,j4,j5,j6,j7,j8,j9,kA,kB,kC,kD,kE,kF,kG,kH,kI,kJ,kK,kL,kM,kN,kO,kP,kQ,kR,kS,kT] M K=withK (fun w49 w50 w51 w52 w53 w54 w55 w56 M=>K #[g0,g1,.int .i64 x2,.pointer x3,g4,g5,g6,g7,g8,g9,gA,gB,gC,gD,gE,gF,gG,gH,gI,gJ,gK,gL,gM,gN,gO,gP,gQ,gR,gS,gT,gU,gV,gW,gX,gY,gZ,hA,hB,hC,hD,hE,hF,hG,hH,hI,hJ,hK,hL,hM,w49,w50,w51,w52,w53,w54,w55,w56,hV,hW,hX,hY,hZ,h0,h1,h2,h3,h4,h5,h6,h7,h8,h9,jA,jB,jC,jD,jE,jF,jG,jH,jI,jJ,jK,jL,jM,jN,jO,jP,jQ,jR,jS,jT,jU,jV,jW,jX,jY,jZ,j0,j1,j2,j3,j4,j5,j6,j7,j8,j9,kA,kB,kC,kD,kE,kF,kG,kH,kI,kJ,kK,kL,kM,kN,kO,kP,kQ,kR,kS,kT] M) fun k=>cond x49 (k (.bool true) undef undef undef undef undef undef (.bool true) M) ((binV Try.prog .shl 3 3 (.int .i64 1) (.int .i64 x2)).bind fun v_1=>(asI .i64 v_1).bind fun x_2=>(x3).bind fun a_3=>(M.intAt .i64 a_3.block (a_3.off+1)).bind fun x_4=>(call 33 #[.int .i64 x_4] M).bind fun r_5=>(asI .i64 r_5.1).bind fun x_6=>k (.bool false) (.int .i64 x2) (.int .i64 x_2) (.pointer (some ⟨a_3.block,a_3.off+1,none⟩)) (.int .i64 x_4) (.int .i64 x_6) (.bool (decide (x_2>x_6))) (.bool (decide (x_2>x_6))) r_5.2):=by kernel_rfl
theorem c17_6:P17 [1,0,1]=.cond (.tmp 56) (P17 [1,0,1,0]) (P17 [1,0,1,1]):=by kernel_rfl
theorem k17_7:P17 [1,0,1,0]=.seq (P17 [1,0,1,0,0]) (P17 [1,0,1,0,1]):=by kernel_rfl
theorem k17_8:P17 [1,0,1,0,0]=.region 2 (O17 [1,0,1,0,0]) false:=by kernel_rfl
theorem r17_2 {M:Mem} {call:CallM} {K:Array Value→Mem→R} :
 opsK Try.prog (fun _=>call) (O17 [1,0,1,0,0]) (O17 [1,0,1,0,0]).toList 0 #[g0,g1,g2,g3,g4,g5,g6,g7,g8,g9,gA,gB,gC,gD,gE,gF,gG,gH,gI,gJ,gK,gL,gM,gN,gO,gP,gQ,gR,gS,gT,gU,gV,gW,gX,gY,gZ,hA,hB,hC,hD,hE,hF,hG,hH,hI,hJ,hK,hL,hM,hN,hO,hP,hQ,hR,hS,hT,hU,hV,hW,hX,hY,hZ,h0,h1,h2,h3,h4,h5,h6,h7,h8,h9,jA,jB,jC,jD,jE,jF,jG,jH,jI,jJ,jK,jL,jM,jN,jO,jP,jQ,jR,jS,jT,jU,jV,jW,jX,jY,jZ,j0,j1,j2,j3,j4,j5,j6,j7,j8,j9,kA,kB,kC,kD,kE,kF,kG,kH,kI,kJ,kK,kL,kM,kN,kO,kP,kQ,kR,kS,kT] M K=K #[g0,g1,g2,g3,g4,g5,.slice none 0 0,.int .i64 2,g8,g9,gA,gB,gC,gD,gE,gF,gG,gH,gI,gJ,gK,gL,gM,gN,gO,gP,gQ,gR,gS,gT,gU,gV,gW,gX,gY,gZ,hA,hB,hC,hD,hE,hF,hG,hH,hI,hJ,hK,hL,hM,hN,hO,hP,hQ,hR,hS,hT,hU,hV,hW,hX,hY,hZ,h0,h1,h2,h3,h4,h5,h6,h7,h8,h9,jA,jB,jC,jD,jE,jF,jG,jH,jI,jJ,jK,jL,jM,jN,jO,jP,jQ,jR,jS,jT,jU,jV,jW,jX,jY,jZ,j0,j1,j2,j3,j4,j5,j6,j7,j8,j9,kA,kB,kC,kD,kE,kF,kG,kH,kI,kJ,kK,kL,kM,kN,kO,kP,kQ,kR,kS,kT] M:=by kernel_rfl
theorem k17_9:P17 [1,0,1,0,1]=.ret:=by kernel_rfl
theorem e17 {M:Mem}:finish Try.prog Try.f17 #[g0,g1,g2,g3,g4,g5,g6,g7,g8,g9,gA,gB,gC,gD,gE,gF,gG,gH,gI,gJ,gK,gL,gM,gN,gO,gP,gQ,gR,gS,gT,gU,gV,gW,gX,gY,gZ,hA,hB,hC,hD,hE,hF,hG,hH,hI,hJ,hK,hL,hM,hN,hO,hP,hQ,hR,hS,hT,hU,hV,hW,hX,hY,hZ,h0,h1,h2,h3,h4,h5,h6,h7,h8,h9,jA,jB,jC,jD,jE,jF,jG,jH,jI,jJ,jK,jL,jM,jN,jO,jP,jQ,jR,jS,jT,jU,jV,jW,jX,jY,jZ,j0,j1,j2,j3,j4,j5,j6,j7,j8,j9,kA,kB,kC,kD,kE,kF,kG,kH,kI,kJ,kK,kL,kM,kN,kO,kP,kQ,kR,kS,kT] M=some (.tuple #[g6,g7],M):=by kernel_rfl
theorem k17_11:P17 [1,0,1,1]=.skip:=by kernel_rfl
theorem k17_12:P17 [1,1]=.seq (P17 [1,1,0]) (P17 [1,1,1]):=by kernel_rfl
theorem k17_13:P17 [1,1,0]=.region 3 (O17 [1,1,0]) false:=by kernel_rfl
theorem r17_3 {M:Mem} {call:CallM} {K:Array Value→Mem→R} :
 opsK Try.prog (fun _=>call) (O17 [1,1,0]) (O17 [1,1,0]).toList 0 #[g0,g1,g2,g3,g4,g5,g6,g7,g8,g9,gA,gB,gC,gD,gE,gF,gG,gH,gI,gJ,gK,gL,gM,gN,gO,gP,gQ,gR,gS,gT,gU,gV,gW,gX,gY,gZ,hA,hB,hC,hD,hE,hF,hG,hH,hI,hJ,hK,hL,hM,hN,hO,hP,hQ,hR,hS,hT,hU,hV,hW,hX,hY,hZ,h0,h1,h2,h3,h4,h5,h6,h7,h8,h9,jA,jB,jC,jD,jE,jF,jG,jH,jI,jJ,jK,jL,jM,jN,jO,jP,jQ,jR,jS,jT,jU,jV,jW,jX,jY,jZ,j0,j1,j2,j3,j4,j5,j6,j7,j8,j9,kA,kB,kC,kD,kE,kF,kG,kH,kI,kJ,kK,kL,kM,kN,kO,kP,kQ,kR,kS,kT] M K=K #[g0,g1,g2,g3,g4,g5,g6,g7,.slice none 0 0,g9,gA,gB,gC,gD,gE,gF,gG,gH,gI,gJ,gK,gL,gM,gN,gO,gP,gQ,gR,gS,gT,gU,gV,gW,gX,gY,gZ,hA,hB,hC,hD,hE,hF,hG,hH,hI,hJ,hK,hL,hM,hN,hO,hP,hQ,hR,hS,hT,hU,hV,hW,hX,hY,hZ,h0,h1,h2,h3,h4,h5,h6,h7,h8,h9,jA,jB,jC,jD,jE,jF,jG,jH,jI,jJ,jK,jL,jM,jN,jO,jP,jQ,jR,jS,jT,jU,jV,jW,jX,jY,jZ,j0,j1,j2,j3,j4,j5,j6,j7,j8,j9,kA,kB,kC,kD,kE,kF,kG,kH,kI,kJ,kK,kL,kM,kN,kO,kP,kQ,kR,kS,kT] M:=by kernel_rfl
theorem k17_14:P17 [1,1,1]=.seq (P17 [1,1,1,0]) (P17 [1,1,1,1]):=by kernel_rfl
theorem k17_15:P17 [1,1,1,0]=.seq (P17 [1,1,1,0,0]) (P17 [1,1,1,0,1]):=by kernel_rfl
theorem k17_16:P17 [1,1,1,0,0]=.region 4 (O17 [1,1,1,0,0]) false:=by kernel_rfl
theorem r17_4 {M:Mem} {call:CallM} {K:Array Value→Mem→R} :
 opsK Try.prog (fun _=>call) (O17 [1,1,1,0,0]) (O17 [1,1,1,0,0]).toList 0 #[g0,g1,g2,g3,g4,g5,g6,g7,g8,g9,gA,gB,gC,gD,gE,gF,gG,gH,gI,gJ,gK,gL,gM,gN,gO,gP,gQ,gR,gS,gT,gU,gV,gW,gX,gY,gZ,hA,hB,hC,hD,hE,hF,hG,hH,hI,hJ,hK,hL,hM,hN,hO,hP,hQ,hR,hS,hT,hU,hV,hW,hX,hY,hZ,h0,h1,h2,h3,h4,h5,h6,h7,h8,h9,jA,jB,jC,jD,jE,jF,jG,jH,jI,jJ,jK,jL,jM,jN,jO,jP,jQ,jR,jS,jT,jU,jV,jW,jX,jY,jZ,j0,j1,j2,j3,j4,j5,j6,j7,j8,j9,kA,kB,kC,kD,kE,kF,kG,kH,kI,kJ,kK,kL,kM,kN,kO,kP,kQ,kR,kS,kT] M K=K #[g0,g1,g2,g3,g4,g5,g6,g7,g8,.int .i64 0,gA,gB,gC,gD,gE,gF,gG,gH,gI,gJ,gK,gL,gM,gN,gO,gP,gQ,gR,gS,gT,gU,gV,gW,gX,gY,gZ,hA,hB,hC,hD,hE,hF,hG,hH,hI,hJ,hK,hL,hM,hN,hO,hP,hQ,hR,hS,hT,hU,hV,hW,hX,hY,hZ,h0,h1,h2,h3,h4,h5,h6,h7,h8,h9,jA,jB,jC,jD,jE,jF,jG,jH,jI,jJ,jK,jL,jM,jN,jO,jP,jQ,jR,jS,jT,jU,jV,jW,jX,jY,jZ,j0,j1,j2,j3,j4,j5,j6,j7,j8,j9,kA,kB,kC,kD,kE,kF,kG,kH,kI,kJ,kK,kL,kM,kN,kO,kP,kQ,kR,kS,kT] M:=by kernel_rfl
theorem k17_17:P17 [1,1,1,0,1]=.block 0 (P17 [1,1,1,0,1,0]):=by kernel_rfl
theorem k17_18:P17 [1,1,1,0,1,0]=.loop (P17 [1,1,1,0,1,0,0]):=by kernel_rfl
theorem k17_19:P17 [1,1,1,0,1,0,0]=.seq (P17 [1,1,1,0,1,0,0,0]) (P17 [1,1,1,0,1,0,0,1]):=by kernel_rfl
theorem k17_20:P17 [1,1,1,0,1,0,0,0]=.seq (P17 [1,1,1,0,1,0,0,0,0]) (P17 [1,1,1,0,1,0,0,0,1]):=by kernel_rfl
theorem k17_21:P17 [1,1,1,0,1,0,0,0,0]=.region 5 (O17 [1,1,1,0,1,0,0,0,0]) false:=by kernel_rfl
theorem r17_5 {x2 x9:Int} {M:Mem} {call:CallM} {K:Array Value→Mem→R} :
 opsK Try.prog (fun _=>call) (O17 [1,1,1,0,1,0,0,0,0]) (O17 [1,1,1,0,1,0,0,0,0]).toList 0 #[g0,g1,.int .i64 x2,g3,g4,g5,g6,g7,g8,.int .i64 x9,gA,gB,gC,gD,gE,gF,gG,gH,gI,gJ,gK,gL,gM,gN,gO,gP,gQ,gR,gS,gT,gU,gV,gW,gX,gY,gZ,hA,hB,hC,hD,hE,hF,hG,hH,hI,hJ,hK,hL,hM,hN,hO,hP,hQ,hR,hS,hT,hU,hV,hW,hX,hY,hZ,h0,h1,h2,h3,h4,h5,h6,h7,h8,h9,jA,jB,jC,jD,jE,jF,jG,jH,jI,jJ,jK,jL,jM,jN,jO,jP,jQ,jR,jS,jT,jU,jV,jW,jX,jY,jZ,j0,j1,j2,j3,j4,j5,j6,j7,j8,j9,kA,kB,kC,kD,kE,kF,kG,kH,kI,kJ,kK,kL,kM,kN,kO,kP,kQ,kR,kS,kT] M K=(binV Try.prog .shl 3 3 (.int .i64 1) (.int .i64 x2)).bind fun v_1=>(asI .i64 v_1).bind fun x_2=>K #[g0,g1,.int .i64 x2,g3,g4,g5,g6,g7,g8,.int .i64 x9,gA,gB,gC,gD,gE,gF,gG,gH,gI,gJ,gK,gL,gM,gN,gO,gP,gQ,gR,gS,gT,gU,gV,gW,gX,gY,gZ,hA,hB,hC,hD,hE,hF,hG,hH,hI,hJ,hK,hL,hM,hN,hO,hP,hQ,hR,hS,hT,hU,.int .i64 x9,.int .i64 x2,.int .i64 x_2,.bool (decide (x9<x_2)),hZ,h0,h1,h2,h3,h4,h5,h6,h7,h8,h9,jA,jB,jC,jD,jE,jF,jG,jH,jI,jJ,jK,jL,jM,jN,jO,jP,jQ,jR,jS,jT,jU,jV,jW,jX,jY,jZ,j0,j1,j2,j3,j4,j5,j6,j7,j8,j9,kA,kB,kC,kD,kE,kF,kG,kH,kI,kJ,kK,kL,kM,kN,kO,kP,kQ,kR,kS,kT] M:=by kernel_rfl
theorem c17_22:P17 [1,1,1,0,1,0,0,0,1]=.cond (.tmp 60) (P17 [1,1,1,0,1,0,0,0,1,0]) (P17 [1,1,1,0,1,0,0,0,1,1]):=by kernel_rfl
theorem k17_23:P17 [1,1,1,0,1,0,0,0,1,0]=.skip:=by kernel_rfl
theorem k17_24:P17 [1,1,1,0,1,0,0,1]=.seq (P17 [1,1,1,0,1,0,0,1,0]) (P17 [1,1,1,0,1,0,0,1,1]):=by kernel_rfl
theorem k17_25:P17 [1,1,1,0,1,0,0,1,0]=.block 1 (P17 [1,1,1,0,1,0,0,1,0,0]):=by kernel_rfl
theorem k17_26:P17 [1,1,1,0,1,0,0,1,0,0]=.seq (P17 [1,1,1,0,1,0,0,1,0,0,0]) (P17 [1,1,1,0,1,0,0,1,0,0,1]):=by kernel_rfl
theorem k17_27:P17 [1,1,1,0,1,0,0,1,0,0,0]=.region 7 (O17 [1,1,1,0,1,0,0,1,0,0,0]) false:=by kernel_rfl
theorem r17_7 {M:Mem} {call:CallM} {K:Array Value→Mem→R} :
 opsK Try.prog (fun _=>call) (O17 [1,1,1,0,1,0,0,1,0,0,0]) (O17 [1,1,1,0,1,0,0,1,0,0,0]).toList 0 #[g0,g1,g2,g3,g4,g5,g6,g7,g8,g9,gA,gB,gC,gD,gE,gF,gG,gH,gI,gJ,gK,gL,gM,gN,gO,gP,gQ,gR,gS,gT,gU,gV,gW,gX,gY,gZ,hA,hB,hC,hD,hE,hF,hG,hH,hI,hJ,hK,hL,hM,hN,hO,hP,hQ,hR,hS,hT,hU,hV,hW,hX,hY,hZ,h0,h1,h2,h3,h4,h5,h6,h7,h8,h9,jA,jB,jC,jD,jE,jF,jG,jH,jI,jJ,jK,jL,jM,jN,jO,jP,jQ,jR,jS,jT,jU,jV,jW,jX,jY,jZ,j0,j1,j2,j3,j4,j5,j6,j7,j8,j9,kA,kB,kC,kD,kE,kF,kG,kH,kI,kJ,kK,kL,kM,kN,kO,kP,kQ,kR,kS,kT] M K=K #[g0,g1,g2,g3,g4,g5,g6,g7,g8,g9,.int .i64 0,gB,gC,gD,gE,gF,gG,gH,gI,gJ,gK,gL,gM,gN,gO,gP,gQ,gR,gS,gT,gU,gV,gW,gX,gY,gZ,hA,hB,hC,hD,hE,hF,hG,hH,hI,hJ,hK,hL,hM,hN,hO,hP,hQ,hR,hS,hT,hU,hV,hW,hX,hY,hZ,h0,h1,h2,h3,h4,h5,h6,h7,h8,h9,jA,jB,jC,jD,jE,jF,jG,jH,jI,jJ,jK,jL,jM,jN,jO,jP,jQ,jR,jS,jT,jU,jV,jW,jX,jY,jZ,j0,j1,j2,j3,j4,j5,j6,j7,j8,j9,kA,kB,kC,kD,kE,kF,kG,kH,kI,kJ,kK,kL,kM,kN,kO,kP,kQ,kR,kS,kT] M:=by kernel_rfl
theorem k17_28:P17 [1,1,1,0,1,0,0,1,0,0,1]=.block 2 (P17 [1,1,1,0,1,0,0,1,0,0,1,0]):=by kernel_rfl
theorem k17_29:P17 [1,1,1,0,1,0,0,1,0,0,1,0]=.loop (P17 [1,1,1,0,1,0,0,1,0,0,1,0,0]):=by kernel_rfl
theorem k17_30:P17 [1,1,1,0,1,0,0,0,1,1]=.exit 0:=by kernel_rfl
theorem k17_31:P17 [1,1,1,1]=.seq (P17 [1,1,1,1,0]) (P17 [1,1,1,1,1]):=by kernel_rfl
theorem k17_32:P17 [1,1,1,1,0]=.region 15 (O17 [1,1,1,1,0]) false:=by kernel_rfl
theorem r17_15 {Y8:Option Addr} {l8 y8:Nat} {M:Mem} {call:CallM} {K:Array Value→Mem→R} :
 opsK Try.prog (fun _=>call) (O17 [1,1,1,1,0]) (O17 [1,1,1,1,0]).toList 0 #[g0,g1,g2,g3,g4,g5,g6,g7,.slice Y8 l8 y8,g9,gA,gB,gC,gD,gE,gF,gG,gH,gI,gJ,gK,gL,gM,gN,gO,gP,gQ,gR,gS,gT,gU,gV,gW,gX,gY,gZ,hA,hB,hC,hD,hE,hF,hG,hH,hI,hJ,hK,hL,hM,hN,hO,hP,hQ,hR,hS,hT,hU,hV,hW,hX,hY,hZ,h0,h1,h2,h3,h4,h5,h6,h7,h8,h9,jA,jB,jC,jD,jE,jF,jG,jH,jI,jJ,jK,jL,jM,jN,jO,jP,jQ,jR,jS,jT,jU,jV,jW,jX,jY,jZ,j0,j1,j2,j3,j4,j5,j6,j7,j8,j9,kA,kB,kC,kD,kE,kF,kG,kH,kI,kJ,kK,kL,kM,kN,kO,kP,kQ,kR,kS,kT] M K=K #[g0,g1,g2,g3,g4,g5,.slice Y8 l8 y8,.int .i64 0,.slice Y8 l8 y8,g9,gA,gB,gC,gD,gE,gF,gG,gH,gI,gJ,gK,gL,gM,gN,gO,gP,gQ,gR,gS,gT,gU,gV,gW,gX,gY,gZ,hA,hB,hC,hD,hE,hF,hG,hH,hI,hJ,hK,hL,hM,hN,hO,hP,hQ,hR,hS,hT,hU,hV,hW,hX,hY,hZ,h0,h1,h2,h3,h4,h5,h6,h7,h8,h9,jA,jB,jC,jD,jE,jF,jG,jH,jI,jJ,jK,jL,jM,jN,jO,jP,jQ,jR,jS,jT,jU,jV,jW,jX,jY,jZ,j0,j1,j2,j3,j4,j5,j6,j7,j8,j9,kA,kB,kC,kD,kE,kF,kG,kH,kI,kJ,kK,kL,kM,kN,kO,kP,kQ,kR,kS,.slice Y8 l8 y8] M:=by kernel_rfl
theorem k17_33:P17 [1,1,1,1,1]=.ret:=by kernel_rfl
theorem k17_34:P17 [1,1,1,0,1,0,0,1,0,0,1,0,0]=.seq (P17 [1,1,1,0,1,0,0,1,0,0,1,0,0,0]) (P17 [1,1,1,0,1,0,0,1,0,0,1,0,0,1]):=by kernel_rfl
theorem k17_35:P17 [1,1,1,0,1,0,0,1,0,0,1,0,0,0]=.seq (P17 [1,1,1,0,1,0,0,1,0,0,1,0,0,0,0]) (P17 [1,1,1,0,1,0,0,1,0,0,1,0,0,0,1]):=by kernel_rfl
theorem k17_36:P17 [1,1,1,0,1,0,0,1,0,0,1,0,0,0,0]=.region 8 (O17 [1,1,1,0,1,0,0,1,0,0,1,0,0,0,0]) false:=by kernel_rfl
theorem r17_8 {x1 x10:Int} {M:Mem} {call:CallM} {K:Array Value→Mem→R} :
 opsK Try.prog (fun _=>call) (O17 [1,1,1,0,1,0,0,1,0,0,1,0,0,0,0]) (O17 [1,1,1,0,1,0,0,1,0,0,1,0,0,0,0]).toList 0 #[g0,.int .i64 x1,g2,g3,g4,g5,g6,g7,g8,g9,.int .i64 x10,gB,gC,gD,gE,gF,gG,gH,gI,gJ,gK,gL,gM,gN,gO,gP,gQ,gR,gS,gT,gU,gV,gW,gX,gY,gZ,hA,hB,hC,hD,hE,hF,hG,hH,hI,hJ,hK,hL,hM,hN,hO,hP,hQ,hR,hS,hT,hU,hV,hW,hX,hY,hZ,h0,h1,h2,h3,h4,h5,h6,h7,h8,h9,jA,jB,jC,jD,jE,jF,jG,jH,jI,jJ,jK,jL,jM,jN,jO,jP,jQ,jR,jS,jT,jU,jV,jW,jX,jY,jZ,j0,j1,j2,j3,j4,j5,j6,j7,j8,j9,kA,kB,kC,kD,kE,kF,kG,kH,kI,kJ,kK,kL,kM,kN,kO,kP,kQ,kR,kS,kT] M K=(binV Try.prog .shl 3 3 (.int .i64 1) (.int .i64 x1)).bind fun v_1=>(asI .i64 v_1).bind fun x_2=>K #[g0,.int .i64 x1,g2,g3,g4,g5,g6,g7,g8,g9,.int .i64 x10,gB,gC,gD,gE,gF,gG,gH,gI,gJ,gK,gL,gM,gN,gO,gP,gQ,gR,gS,gT,gU,gV,gW,gX,gY,gZ,hA,hB,hC,hD,hE,hF,hG,hH,hI,hJ,hK,hL,hM,hN,hO,hP,hQ,hR,hS,hT,hU,hV,hW,hX,hY,hZ,h0,.int .i64 x10,.int .i64 x1,.int .i64 x_2,.bool (decide (x10<x_2)),h5,h6,h7,h8,h9,jA,jB,jC,jD,jE,jF,jG,jH,jI,jJ,jK,jL,jM,jN,jO,jP,jQ,jR,jS,jT,jU,jV,jW,jX,jY,jZ,j0,j1,j2,j3,j4,j5,j6,j7,j8,j9,kA,kB,kC,kD,kE,kF,kG,kH,kI,kJ,kK,kL,kM,kN,kO,kP,kQ,kR,kS,kT] M:=by kernel_rfl
theorem c17_37:P17 [1,1,1,0,1,0,0,1,0,0,1,0,0,0,1]=.cond (.tmp 66) (P17 [1,1,1,0,1,0,0,1,0,0,1,0,0,0,1,0]) (P17 [1,1,1,0,1,0,0,1,0,0,1,0,0,0,1,1]):=by kernel_rfl
theorem k17_38:P17 [1,1,1,0,1,0,0,1,0,0,1,0,0,0,1,0]=.skip:=by kernel_rfl
theorem k17_39:P17 [1,1,1,0,1,0,0,1,0,0,1,0,0,1]=.seq (P17 [1,1,1,0,1,0,0,1,0,0,1,0,0,1,0]) (P17 [1,1,1,0,1,0,0,1,0,0,1,0,0,1,1]):=by kernel_rfl
theorem k17_40:P17 [1,1,1,0,1,0,0,1,0,0,1,0,0,1,0]=.block 3 (P17 [1,1,1,0,1,0,0,1,0,0,1,0,0,1,0,0]):=by kernel_rfl
theorem k17_41:P17 [1,1,1,0,1,0,0,1,0,0,1,0,0,1,0,0]=.seq (P17 [1,1,1,0,1,0,0,1,0,0,1,0,0,1,0,0,0]) (P17 [1,1,1,0,1,0,0,1,0,0,1,0,0,1,0,0,1]):=by kernel_rfl
theorem k17_42:P17 [1,1,1,0,1,0,0,1,0,0,1,0,0,1,0,0,0]=.region 10 (O17 [1,1,1,0,1,0,0,1,0,0,1,0,0,1,0,0,0]) true∧drawOk (O17 [1,1,1,0,1,0,0,1,0,0,1,0,0,1,0,0,0])=true:=⟨by kernel_rfl,by kernel_rfl⟩
theorem r17_10 {x1:Int} {x3:Option Addr} {x10:Int} {M:Mem} {call:CallM} {K:Array Value→Mem→R} :
    opsI Try.prog (callAt call (O17 [1,1,1,0,1,0,0,1,0,0,1,0,0,1,0,0,0])) (O17 [1,1,1,0,1,0,0,1,0,0,1,0,0,1,0,0,0]) (ordOf (O17 [1,1,1,0,1,0,0,1,0,0,1,0,0,1,0,0,0])) [] #[g0,.int .i64 x1,g2,.pointer x3,g4,g5,g6,g7,g8,g9,.int .i64 x10,gB,gC,gD,gE,gF,gG,gH,gI,gJ,gK,gL,gM,gN,gO,gP,gQ,gR,gS,gT,gU,gV,gW,gX,gY,gZ,hA,hB,hC,hD,hE,hF,hG,hH,hI,hJ,hK,hL,hM,hN,hO,hP,hQ,hR,hS,hT,hU,hV,hW,hX,hY,hZ,h0,h1,h2,h3,h4,h5,h6,h7,h8,h9,jA,jB,jC,jD,jE,jF,jG,jH,jI,jJ,jK,jL,jM,jN,jO,jP,jQ,jR,jS,jT,jU,jV,jW,jX,jY,jZ,j0,j1,j2,j3,j4,j5,j6,j7,j8,j9,kA,kB,kC,kD,kE,kF,kG,kH,kI,kJ,kK,kL,kM,kN,kO,kP,kQ,kR,kS,kT] M K=(x3).bind fun a_1=>(M.intAt .i64 a_1.block a_1.off).bind fun x_2=>(binV Try.prog .shl 3 3 (.int .i64 1) (.int .i64 x1)).bind fun v_3=>(asI .i64 v_3).bind fun x_4=>(call 33 #[.int .i64 x_2] M).bind fun r_5=>(asI .i64 r_5.1).bind fun x_6=>(binV Try.prog .quo 3 3 (.int .i64 (IntKind.i64.wrap (x10*x_6))) (.int .i64 x_4)).bind fun v_7=>(asI .i64 v_7).bind fun x_8=>K #[g0,.int .i64 x1,g2,.pointer x3,g4,g5,g6,g7,g8,g9,.int .i64 x10,.int .i64 (IntKind.i64.wrap (x_8*64)),gC,gD,gE,gF,gG,gH,gI,gJ,gK,gL,gM,gN,gO,gP,gQ,gR,gS,gT,gU,gV,gW,gX,gY,gZ,hA,hB,hC,hD,hE,hF,hG,hH,hI,hJ,hK,hL,hM,hN,hO,hP,hQ,hR,hS,hT,hU,hV,hW,hX,hY,hZ,h0,h1,h2,h3,h4,h5,h6,.int .i64 x10,.pointer (some ⟨a_1.block,a_1.off,none⟩),.int .i64 x_2,.int .i64 x_6,.int .i64 (IntKind.i64.wrap (x10*x_6)),.int .i64 x1,.int .i64 x_4,.int .i64 x_8,.int .i64 (IntKind.i64.wrap (x_8*64)),jG,jH,jI,jJ,jK,jL,jM,jN,jO,jP,jQ,jR,jS,jT,jU,jV,jW,jX,jY,jZ,j0,j1,j2,j3,j4,j5,j6,j7,j8,j9,kA,kB,kC,kD,kE,kF,kG,kH,kI,kJ,kK,kL,kM,kN,kO,kP,kQ,kR,kS,kT] r_5.2:=by kernel_rfl
theorem k17_43:P17 [1,1,1,0,1,0,0,1,0,0,1,0,0,1,0,0,1]=.seq (P17 [1,1,1,0,1,0,0,1,0,0,1,0,0,1,0,0,1,0]) (P17 [1,1,1,0,1,0,0,1,0,0,1,0,0,1,0,0,1,1]):=by kernel_rfl
theorem k17_44:P17 [1,1,1,0,1,0,0,1,0,0,1,0,0,1,0,0,1,0]=.region 11 (O17 [1,1,1,0,1,0,0,1,0,0,1,0,0,1,0,0,1,0]) true∧drawOk (O17 [1,1,1,0,1,0,0,1,0,0,1,0,0,1,0,0,1,0])=true:=⟨by kernel_rfl,by kernel_rfl⟩
theorem r17_11 {x2:Int} {x3:Option Addr} {x9:Int} {M:Mem} {call:CallM} {K:Array Value→Mem→R} :
    opsI Try.prog (callAt call (O17 [1,1,1,0,1,0,0,1,0,0,1,0,0,1,0,0,1,0])) (O17 [1,1,1,0,1,0,0,1,0,0,1,0,0,1,0,0,1,0]) (ordOf (O17 [1,1,1,0,1,0,0,1,0,0,1,0,0,1,0,0,1,0])) [] #[g0,g1,.int .i64 x2,.pointer x3,g4,g5,g6,g7,g8,.int .i64 x9,gA,gB,gC,gD,gE,gF,gG,gH,gI,gJ,gK,gL,gM,gN,gO,gP,gQ,gR,gS,gT,gU,gV,gW,gX,gY,gZ,hA,hB,hC,hD,hE,hF,hG,hH,hI,hJ,hK,hL,hM,hN,hO,hP,hQ,hR,hS,hT,hU,hV,hW,hX,hY,hZ,h0,h1,h2,h3,h4,h5,h6,h7,h8,h9,jA,jB,jC,jD,jE,jF,jG,jH,jI,jJ,jK,jL,jM,jN,jO,jP,jQ,jR,jS,jT,jU,jV,jW,jX,jY,jZ,j0,j1,j2,j3,j4,j5,j6,j7,j8,j9,kA,kB,kC,kD,kE,kF,kG,kH,kI,kJ,kK,kL,kM,kN,kO,kP,kQ,kR,kS,kT] M K=(x3).bind fun a_1=>(M.intAt .i64 a_1.block (a_1.off+1)).bind fun x_2=>(binV Try.prog .shl 3 3 (.int .i64 1) (.int .i64 x2)).bind fun v_3=>(asI .i64 v_3).bind fun x_4=>(call 33 #[.int .i64 x_2] M).bind fun r_5=>(asI .i64 r_5.1).bind fun x_6=>(binV Try.prog .quo 3 3 (.int .i64 (IntKind.i64.wrap (x9*x_6))) (.int .i64 x_4)).bind fun v_7=>(asI .i64 v_7).bind fun x_8=>K #[g0,g1,.int .i64 x2,.pointer x3,g4,g5,g6,g7,g8,.int .i64 x9,gA,gB,.int .i64 (IntKind.i64.wrap (x_8*64)),gD,gE,gF,gG,gH,gI,gJ,gK,gL,gM,gN,gO,gP,gQ,gR,gS,gT,gU,gV,gW,gX,gY,gZ,hA,hB,hC,hD,hE,hF,hG,hH,hI,hJ,hK,hL,hM,hN,hO,hP,hQ,hR,hS,hT,hU,hV,hW,hX,hY,hZ,h0,h1,h2,h3,h4,h5,h6,h7,h8,h9,jA,jB,jC,jD,jE,jF,.int .i64 x9,.pointer (some ⟨a_1.block,a_1.off+1,none⟩),.int .i64 x_2,.int .i64 x_6,.int .i64 (IntKind.i64.wrap (x9*x_6)),.int .i64 x2,.int .i64 x_4,.int .i64 x_8,.int .i64 (IntKind.i64.wrap (x_8*64)),jP,jQ,jR,jS,jT,jU,jV,jW,jX,jY,jZ,j0,j1,j2,j3,j4,j5,j6,j7,j8,j9,kA,kB,kC,kD,kE,kF,kG,kH,kI,kJ,kK,kL,kM,kN,kO,kP,kQ,kR,kS,kT] r_5.2:=by kernel_rfl
theorem k17_45:P17 [1,1,1,0,1,0,0,1,0,0,1,0,0,1,0,0,1,1]=.seq (P17 [1,1,1,0,1,0,0,1,0,0,1,0,0,1,0,0,1,1,0]) (P17 [1,1,1,0,1,0,0,1,0,0,1,0,0,1,0,0,1,1,1]):=by kernel_rfl
theorem k17_46:P17 [1,1,1,0,1,0,0,1,0,0,1,0,0,1,0,0,1,1,0]=.region 12 (O17 [1,1,1,0,1,0,0,1,0,0,1,0,0,1,0,0,1,1,0]) true∧drawOk (O17 [1,1,1,0,1,0,0,1,0,0,1,0,0,1,0,0,1,1,0])=true:=⟨by kernel_rfl,by kernel_rfl⟩
theorem r17_12 {x1:Int} {x3:Option Addr} {x10:Int} {M:Mem} {call:CallM} {K:Array Value→Mem→R} :
    opsI Try.prog (callAt call (O17 [1,1,1,0,1,0,0,1,0,0,1,0,0,1,0,0,1,1,0])) (O17 [1,1,1,0,1,0,0,1,0,0,1,0,0,1,0,0,1,1,0]) (ordOf (O17 [1,1,1,0,1,0,0,1,0,0,1,0,0,1,0,0,1,1,0])) [] #[g0,.int .i64 x1,g2,.pointer x3,g4,g5,g6,g7,g8,g9,.int .i64 x10,gB,gC,gD,gE,gF,gG,gH,gI,gJ,gK,gL,gM,gN,gO,gP,gQ,gR,gS,gT,gU,gV,gW,gX,gY,gZ,hA,hB,hC,hD,hE,hF,hG,hH,hI,hJ,hK,hL,hM,hN,hO,hP,hQ,hR,hS,hT,hU,hV,hW,hX,hY,hZ,h0,h1,h2,h3,h4,h5,h6,h7,h8,h9,jA,jB,jC,jD,jE,jF,jG,jH,jI,jJ,jK,jL,jM,jN,jO,jP,jQ,jR,jS,jT,jU,jV,jW,jX,jY,jZ,j0,j1,j2,j3,j4,j5,j6,j7,j8,j9,kA,kB,kC,kD,kE,kF,kG,kH,kI,kJ,kK,kL,kM,kN,kO,kP,kQ,kR,kS,kT] M K=(x3).bind fun a_1=>(M.intAt .i64 a_1.block a_1.off).bind fun x_2=>(binV Try.prog .shl 3 3 (.int .i64 1) (.int .i64 x1)).bind fun v_3=>(asI .i64 v_3).bind fun x_4=>(x3).bind fun a_5=>(M.intAt .i64 a_5.block a_5.off).bind fun x_6=>(floored call 33 #[.int .i64 x_2] M).bind fun r_7=>(asI .i64 r_7.1).bind fun x_8=>(binV Try.prog .quo 3 3 (.int .i64 (IntKind.i64.wrap ((IntKind.i64.wrap (x10+1))*x_8))) (.int .i64 x_4)).bind fun v_9=>(asI .i64 v_9).bind fun x_10=>(call 34 #[.int .i64 x_6] r_7.2).bind fun r_11=>(asI .i64 r_11.1).bind fun x_12=>K #[g0,.int .i64 x1,g2,.pointer x3,g4,g5,g6,g7,g8,g9,.int .i64 x10,gB,gC,.int .i64 (if x_12<IntKind.i64.wrap (x_10*64) then x_12 else IntKind.i64.wrap (x_10*64)),gE,gF,gG,gH,gI,gJ,gK,gL,gM,gN,gO,gP,gQ,gR,gS,gT,gU,gV,gW,gX,gY,gZ,hA,hB,hC,hD,hE,hF,hG,hH,hI,hJ,hK,hL,hM,hN,hO,hP,hQ,hR,hS,hT,hU,hV,hW,hX,hY,hZ,h0,h1,h2,h3,h4,h5,h6,h7,h8,h9,jA,jB,jC,jD,jE,jF,jG,jH,jI,jJ,jK,jL,jM,jN,jO,.int .i64 x10,.int .i64 (IntKind.i64.wrap (x10+1)),.pointer (some ⟨a_1.block,a_1.off,none⟩),.int .i64 x_2,.int .i64 x_8,.int .i64 (IntKind.i64.wrap ((IntKind.i64.wrap (x10+1))*x_8)),.int .i64 x1,.int .i64 x_4,.int .i64 x_10,.int .i64 (IntKind.i64.wrap (x_10*64)),.pointer (some ⟨a_5.block,a_5.off,none⟩),.int .i64 x_6,.int .i64 x_12,.int .i64 (if x_12<IntKind.i64.wrap (x_10*64) then x_12 else IntKind.i64.wrap (x_10*64)),j3,j4,j5,j6,j7,j8,j9,kA,kB,kC,kD,kE,kF,kG,kH,kI,kJ,kK,kL,kM,kN,kO,kP,kQ,kR,kS,kT] r_11.2:=by kernel_rfl
theorem k17_47:P17 [1,1,1,0,1,0,0,1,0,0,1,0,0,1,0,0,1,1,1]=.seq (P17 [1,1,1,0,1,0,0,1,0,0,1,0,0,1,0,0,1,1,1,0]) (P17 [1,1,1,0,1,0,0,1,0,0,1,0,0,1,0,0,1,1,1,1]):=by kernel_rfl
theorem k17_48:P17 [1,1,1,0,1,0,0,1,0,0,1,0,0,1,0,0,1,1,1,0]=.region 13 (O17 [1,1,1,0,1,0,0,1,0,0,1,0,0,1,0,0,1,1,1,0]) true∧drawOk (O17 [1,1,1,0,1,0,0,1,0,0,1,0,0,1,0,0,1,1,1,0])=true:=⟨by kernel_rfl,by kernel_rfl⟩
theorem r17_13 {x2:Int} {x3:Option Addr} {x9:Int} {M:Mem} {call:CallM} {K:Array Value→Mem→R} :
    opsI Try.prog (callAt call (O17 [1,1,1,0,1,0,0,1,0,0,1,0,0,1,0,0,1,1,1,0])) (O17 [1,1,1,0,1,0,0,1,0,0,1,0,0,1,0,0,1,1,1,0]) (ordOf (O17 [1,1,1,0,1,0,0,1,0,0,1,0,0,1,0,0,1,1,1,0])) [] #[g0,g1,.int .i64 x2,.pointer x3,g4,g5,g6,g7,g8,.int .i64 x9,gA,gB,gC,gD,gE,gF,gG,gH,gI,gJ,gK,gL,gM,gN,gO,gP,gQ,gR,gS,gT,gU,gV,gW,gX,gY,gZ,hA,hB,hC,hD,hE,hF,hG,hH,hI,hJ,hK,hL,hM,hN,hO,hP,hQ,hR,hS,hT,hU,hV,hW,hX,hY,hZ,h0,h1,h2,h3,h4,h5,h6,h7,h8,h9,jA,jB,jC,jD,jE,jF,jG,jH,jI,jJ,jK,jL,jM,jN,jO,jP,jQ,jR,jS,jT,jU,jV,jW,jX,jY,jZ,j0,j1,j2,j3,j4,j5,j6,j7,j8,j9,kA,kB,kC,kD,kE,kF,kG,kH,kI,kJ,kK,kL,kM,kN,kO,kP,kQ,kR,kS,kT] M K=(x3).bind fun a_1=>(M.intAt .i64 a_1.block (a_1.off+1)).bind fun x_2=>(binV Try.prog .shl 3 3 (.int .i64 1) (.int .i64 x2)).bind fun v_3=>(asI .i64 v_3).bind fun x_4=>(x3).bind fun a_5=>(M.intAt .i64 a_5.block (a_5.off+1)).bind fun x_6=>(floored call 33 #[.int .i64 x_2] M).bind fun r_7=>(asI .i64 r_7.1).bind fun x_8=>(binV Try.prog .quo 3 3 (.int .i64 (IntKind.i64.wrap ((IntKind.i64.wrap (x9+1))*x_8))) (.int .i64 x_4)).bind fun v_9=>(asI .i64 v_9).bind fun x_10=>(call 34 #[.int .i64 x_6] r_7.2).bind fun r_11=>(asI .i64 r_11.1).bind fun x_12=>K #[g0,g1,.int .i64 x2,.pointer x3,g4,g5,g6,g7,g8,.int .i64 x9,gA,gB,gC,gD,.int .i64 (if x_12<IntKind.i64.wrap (x_10*64) then x_12 else IntKind.i64.wrap (x_10*64)),gF,gG,gH,gI,gJ,gK,gL,gM,gN,gO,gP,gQ,gR,gS,gT,gU,gV,gW,gX,gY,gZ,hA,hB,hC,hD,hE,hF,hG,hH,hI,hJ,hK,hL,hM,hN,hO,hP,hQ,hR,hS,hT,hU,hV,hW,hX,hY,hZ,h0,h1,h2,h3,h4,h5,h6,h7,h8,h9,jA,jB,jC,jD,jE,jF,jG,jH,jI,jJ,jK,jL,jM,jN,jO,jP,jQ,jR,jS,jT,jU,jV,jW,jX,jY,jZ,j0,j1,j2,.int .i64 x9,.int .i64 (IntKind.i64.wrap (x9+1)),.pointer (some ⟨a_1.block,a_1.off+1,none⟩),.int .i64 x_2,.int .i64 x_8,.int .i64 (IntKind.i64.wrap ((IntKind.i64.wrap (x9+1))*x_8)),.int .i64 x2,.int .i64 x_4,.int .i64 x_10,.int .i64 (IntKind.i64.wrap (x_10*64)),.pointer (some ⟨a_5.block,a_5.off+1,none⟩),.int .i64 x_6,.int .i64 x_12,.int .i64 (if x_12<IntKind.i64.wrap (x_10*64) then x_12 else IntKind.i64.wrap (x_10*64)),kH,kI,kJ,kK,kL,kM,kN,kO,kP,kQ,kR,kS,kT] r_11.2:=by kernel_rfl
theorem k17_49:P17 [1,1,1,0,1,0,0,1,0,0,1,0,0,1,0,0,1,1,1,1]=.region 14 (O17 [1,1,1,0,1,0,0,1,0,0,1,0,0,1,0,0,1,1,1,1]) false:=by kernel_rfl
theorem r17_14 {Y8:Option Addr} {l8 y8:Nat} {x11 x12 x13 x14:Int} {M:Mem} {call:CallM} {K:Array Value→Mem→R} :
 opsK Try.prog (fun _=>call) (O17 [1,1,1,0,1,0,0,1,0,0,1,0,0,1,0,0,1,1,1,1]) (O17 [1,1,1,0,1,0,0,1,0,0,1,0,0,1,0,0,1,1,1,1]).toList 0 #[g0,g1,g2,g3,g4,g5,g6,g7,.slice Y8 l8 y8,g9,gA,.int .i64 x11,.int .i64 x12,.int .i64 x13,.int .i64 x14,gF,gG,gH,gI,gJ,gK,gL,gM,gN,gO,gP,gQ,gR,gS,gT,gU,gV,gW,gX,gY,gZ,hA,hB,hC,hD,hE,hF,hG,hH,hI,hJ,hK,hL,hM,hN,hO,hP,hQ,hR,hS,hT,hU,hV,hW,hX,hY,hZ,h0,h1,h2,h3,h4,h5,h6,h7,h8,h9,jA,jB,jC,jD,jE,jF,jG,jH,jI,jJ,jK,jL,jM,jN,jO,jP,jQ,jR,jS,jT,jU,jV,jW,jX,jY,jZ,j0,j1,j2,j3,j4,j5,j6,j7,j8,j9,kA,kB,kC,kD,kE,kF,kG,kH,kI,kJ,kK,kL,kM,kN,kO,kP,kQ,kR,kS,kT] M K=(appendP Try.prog #[36,36] (.slice Y8 l8 y8) (.slice (some ⟨2*M.nb.size,0,none⟩) 1 1) (M.new (.cells #[.int .i64 x11,.int .i64 x12,.int .i64 (IntKind.i64.wrap (x13-x11)),.int .i64 (IntKind.i64.wrap (x14-x12))] 35))).bind fun r_1=>(asS r_1.1).bind fun s_2=>K #[g0,g1,g2,g3,g4,g5,g6,g7,.slice s_2.1 (s_2.2.1) (s_2.2.2),g9,gA,.int .i64 x11,.int .i64 x12,.int .i64 x13,.int .i64 x14,gF,gG,gH,gI,gJ,gK,gL,gM,gN,gO,gP,gQ,gR,gS,gT,gU,gV,gW,gX,gY,gZ,hA,hB,hC,hD,hE,hF,hG,hH,hI,hJ,hK,hL,hM,hN,hO,hP,hQ,hR,hS,hT,hU,hV,hW,hX,hY,hZ,h0,h1,h2,h3,h4,h5,h6,h7,h8,h9,jA,jB,jC,jD,jE,jF,jG,jH,jI,jJ,jK,jL,jM,jN,jO,jP,jQ,jR,jS,jT,jU,jV,jW,jX,jY,jZ,j0,j1,j2,j3,j4,j5,j6,j7,j8,j9,kA,kB,kC,kD,kE,kF,kG,.slice Y8 l8 y8,.int .i64 x11,.int .i64 x12,.int .i64 x13,.int .i64 x11,.int .i64 (IntKind.i64.wrap (x13-x11)),.int .i64 x14,.int .i64 x12,.int .i64 (IntKind.i64.wrap (x14-x12)),.agg #[.int .i64 x11,.int .i64 x12,.int .i64 (IntKind.i64.wrap (x13-x11)),.int .i64 (IntKind.i64.wrap (x14-x12))],.slice (some ⟨2*M.nb.size,0,none⟩) 1 1,.slice s_2.1 (s_2.2.1) (s_2.2.2),kT] r_1.2:=by kernel_rfl
theorem k17_50:P17 [1,1,1,0,1,0,0,1,0,0,1,0,0,1,1]=.region 9 (O17 [1,1,1,0,1,0,0,1,0,0,1,0,0,1,1]) false:=by kernel_rfl
theorem r17_9 {x10:Int} {M:Mem} {call:CallM} {K:Array Value→Mem→R} :
 opsK Try.prog (fun _=>call) (O17 [1,1,1,0,1,0,0,1,0,0,1,0,0,1,1]) (O17 [1,1,1,0,1,0,0,1,0,0,1,0,0,1,1]).toList 0 #[g0,g1,g2,g3,g4,g5,g6,g7,g8,g9,.int .i64 x10,gB,gC,gD,gE,gF,gG,gH,gI,gJ,gK,gL,gM,gN,gO,gP,gQ,gR,gS,gT,gU,gV,gW,gX,gY,gZ,hA,hB,hC,hD,hE,hF,hG,hH,hI,hJ,hK,hL,hM,hN,hO,hP,hQ,hR,hS,hT,hU,hV,hW,hX,hY,hZ,h0,h1,h2,h3,h4,h5,h6,h7,h8,h9,jA,jB,jC,jD,jE,jF,jG,jH,jI,jJ,jK,jL,jM,jN,jO,jP,jQ,jR,jS,jT,jU,jV,jW,jX,jY,jZ,j0,j1,j2,j3,j4,j5,j6,j7,j8,j9,kA,kB,kC,kD,kE,kF,kG,kH,kI,kJ,kK,kL,kM,kN,kO,kP,kQ,kR,kS,kT] M K=K #[g0,g1,g2,g3,g4,g5,g6,g7,g8,g9,.int .i64 (IntKind.i64.wrap (x10+1)),gB,gC,gD,gE,gF,gG,gH,gI,gJ,gK,gL,gM,gN,gO,gP,gQ,gR,gS,gT,gU,gV,gW,gX,gY,gZ,hA,hB,hC,hD,hE,hF,hG,hH,hI,hJ,hK,hL,hM,hN,hO,hP,hQ,hR,hS,hT,hU,hV,hW,hX,hY,hZ,h0,h1,h2,h3,h4,.int .i64 x10,.int .i64 (IntKind.i64.wrap (x10+1)),h7,h8,h9,jA,jB,jC,jD,jE,jF,jG,jH,jI,jJ,jK,jL,jM,jN,jO,jP,jQ,jR,jS,jT,jU,jV,jW,jX,jY,jZ,j0,j1,j2,j3,j4,j5,j6,j7,j8,j9,kA,kB,kC,kD,kE,kF,kG,kH,kI,kJ,kK,kL,kM,kN,kO,kP,kQ,kR,kS,kT] M:=by kernel_rfl
theorem k17_51:P17 [1,1,1,0,1,0,0,1,0,0,1,0,0,0,1,1]=.exit 2:=by kernel_rfl
theorem k17_52:P17 [1,1,1,0,1,0,0,1,1]=.region 6 (O17 [1,1,1,0,1,0,0,1,1]) false:=by kernel_rfl
theorem r17_6 {x9:Int} {M:Mem} {call:CallM} {K:Array Value→Mem→R} :
 opsK Try.prog (fun _=>call) (O17 [1,1,1,0,1,0,0,1,1]) (O17 [1,1,1,0,1,0,0,1,1]).toList 0 #[g0,g1,g2,g3,g4,g5,g6,g7,g8,.int .i64 x9,gA,gB,gC,gD,gE,gF,gG,gH,gI,gJ,gK,gL,gM,gN,gO,gP,gQ,gR,gS,gT,gU,gV,gW,gX,gY,gZ,hA,hB,hC,hD,hE,hF,hG,hH,hI,hJ,hK,hL,hM,hN,hO,hP,hQ,hR,hS,hT,hU,hV,hW,hX,hY,hZ,h0,h1,h2,h3,h4,h5,h6,h7,h8,h9,jA,jB,jC,jD,jE,jF,jG,jH,jI,jJ,jK,jL,jM,jN,jO,jP,jQ,jR,jS,jT,jU,jV,jW,jX,jY,jZ,j0,j1,j2,j3,j4,j5,j6,j7,j8,j9,kA,kB,kC,kD,kE,kF,kG,kH,kI,kJ,kK,kL,kM,kN,kO,kP,kQ,kR,kS,kT] M K=K #[g0,g1,g2,g3,g4,g5,g6,g7,g8,.int .i64 (IntKind.i64.wrap (x9+1)),gA,gB,gC,gD,gE,gF,gG,gH,gI,gJ,gK,gL,gM,gN,gO,gP,gQ,gR,gS,gT,gU,gV,gW,gX,gY,gZ,hA,hB,hC,hD,hE,hF,hG,hH,hI,hJ,hK,hL,hM,hN,hO,hP,hQ,hR,hS,hT,hU,hV,hW,hX,hY,.int .i64 x9,.int .i64 (IntKind.i64.wrap (x9+1)),h1,h2,h3,h4,h5,h6,h7,h8,h9,jA,jB,jC,jD,jE,jF,jG,jH,jI,jJ,jK,jL,jM,jN,jO,jP,jQ,jR,jS,jT,jU,jV,jW,jX,jY,jZ,j0,j1,j2,j3,j4,j5,j6,j7,j8,j9,kA,kB,kC,kD,kE,kF,kG,kH,kI,kJ,kK,kL,kM,kN,kO,kP,kQ,kR,kS,kT] M:=by kernel_rfl
noncomputable def S17_1:List Item:=[.code (P17 [1,0,1]),.code (P17 [1,1])]
def A17_1 (x1 x2:Int) (x3:Option Addr) (x25:Bool) (M:Mem) (Q:Value→Mem→Prop):Prop:=∀ (g0 g4 g5 g6 g7 g8 g9 gA gB gC gD gE gF gG gH gI gJ gK gL gM gN gO gQ gR gS gT gU gV gW gX gY gZ hA hB hC hD hE hF hG hH hI hJ hK hL hM hN hO hP hQ hR hS hT hU hV hW hX hY hZ h0 h1 h2 h3 h4 h5 h6 h7 h8 h9 jA jB jC jD jE jF jG jH jI jJ jK jL jM jN jO jP jQ jR jS jT jU jV jW jX jY jZ j0 j1 j2 j3 j4 j5 j6 j7 j8 j9 kA kB kC kD kE kF kG kH kI kJ kK kL kM kN kO kP kQ kR kS kT:Value),Rg Try.prog Try.f17 (O17 [1,0,0]) true 11 S17_1 #[g0,.int .i64 x1,.int .i64 x2,.pointer x3,g4,g5,g6,g7,g8,g9,gA,gB,gC,gD,gE,gF,gG,gH,gI,gJ,gK,gL,gM,gN,gO,.bool x25,gQ,gR,gS,gT,gU,gV,gW,gX,gY,gZ,hA,hB,hC,hD,hE,hF,hG,hH,hI,hJ,hK,hL,hM,hN,hO,hP,hQ,hR,hS,hT,hU,hV,hW,hX,hY,hZ,h0,h1,h2,h3,h4,h5,h6,h7,h8,h9,jA,jB,jC,jD,jE,jF,jG,jH,jI,jJ,jK,jL,jM,jN,jO,jP,jQ,jR,jS,jT,jU,jV,jW,jX,jY,jZ,j0,j1,j2,j3,j4,j5,j6,j7,j8,j9,kA,kB,kC,kD,kE,kF,kG,kH,kI,kJ,kK,kL,kM,kN,kO,kP,kQ,kR,kS,kT] M Q
noncomputable def S17_2:List Item:=[.code (P17 [1,0,1]),.code (P17 [1,1])]
def A17_2 (x1 x2:Int) (x3:Option Addr) (x29:Bool) (M:Mem) (Q:Value→Mem→Prop):Prop:=∀ (g0 g4 g5 g6 g7 g8 g9 gA gB gC gD gE gF gG gH gI gJ gK gL gM gN gO gP gQ gR gS gU gV gW gX gY gZ hA hB hC hD hE hF hG hH hI hJ hK hL hM hN hO hP hQ hR hS hT hU hV hW hX hY hZ h0 h1 h2 h3 h4 h5 h6 h7 h8 h9 jA jB jC jD jE jF jG jH jI jJ jK jL jM jN jO jP jQ jR jS jT jU jV jW jX jY jZ j0 j1 j2 j3 j4 j5 j6 j7 j8 j9 kA kB kC kD kE kF kG kH kI kJ kK kL kM kN kO kP kQ kR kS kT:Value),Rg Try.prog Try.f17 (O17 [1,0,0]) true 15 S17_2 #[g0,.int .i64 x1,.int .i64 x2,.pointer x3,g4,g5,g6,g7,g8,g9,gA,gB,gC,gD,gE,gF,gG,gH,gI,gJ,gK,gL,gM,gN,gO,gP,gQ,gR,gS,.bool x29,gU,gV,gW,gX,gY,gZ,hA,hB,hC,hD,hE,hF,hG,hH,hI,hJ,hK,hL,hM,hN,hO,hP,hQ,hR,hS,hT,hU,hV,hW,hX,hY,hZ,h0,h1,h2,h3,h4,h5,h6,h7,h8,h9,jA,jB,jC,jD,jE,jF,jG,jH,jI,jJ,jK,jL,jM,jN,jO,jP,jQ,jR,jS,jT,jU,jV,jW,jX,jY,jZ,j0,j1,j2,j3,j4,j5,j6,j7,j8,j9,kA,kB,kC,kD,kE,kF,kG,kH,kI,kJ,kK,kL,kM,kN,kO,kP,kQ,kR,kS,kT] M Q
noncomputable def S17_3:List Item:=[.code (P17 [1,0,1]),.code (P17 [1,1])]
def A17_3 (x1 x2:Int) (x3:Option Addr) (x33:Bool) (M:Mem) (Q:Value→Mem→Prop):Prop:=∀ (g0 g4 g5 g6 g7 g8 g9 gA gB gC gD gE gF gG gH gI gJ gK gL gM gN gO gP gQ gR gS gT gU gV gW gY gZ hA hB hC hD hE hF hG hH hI hJ hK hL hM hN hO hP hQ hR hS hT hU hV hW hX hY hZ h0 h1 h2 h3 h4 h5 h6 h7 h8 h9 jA jB jC jD jE jF jG jH jI jJ jK jL jM jN jO jP jQ jR jS jT jU jV jW jX jY jZ j0 j1 j2 j3 j4 j5 j6 j7 j8 j9 kA kB kC kD kE kF kG kH kI kJ kK kL kM kN kO kP kQ kR kS kT:Value),Rg Try.prog Try.f17 (O17 [1,0,0]) true 19 S17_3 #[g0,.int .i64 x1,.int .i64 x2,.pointer x3,g4,g5,g6,g7,g8,g9,gA,gB,gC,gD,gE,gF,gG,gH,gI,gJ,gK,gL,gM,gN,gO,gP,gQ,gR,gS,gT,gU,gV,gW,.bool x33,gY,gZ,hA,hB,hC,hD,hE,hF,hG,hH,hI,hJ,hK,hL,hM,hN,hO,hP,hQ,hR,hS,hT,hU,hV,hW,hX,hY,hZ,h0,h1,h2,h3,h4,h5,h6,h7,h8,h9,jA,jB,jC,jD,jE,jF,jG,jH,jI,jJ,jK,jL,jM,jN,jO,jP,jQ,jR,jS,jT,jU,jV,jW,jX,jY,jZ,j0,j1,j2,j3,j4,j5,j6,j7,j8,j9,kA,kB,kC,kD,kE,kF,kG,kH,kI,kJ,kK,kL,kM,kN,kO,kP,kQ,kR,kS,kT] M Q
noncomputable def S17_4:List Item:=[.code (P17 [1,0,1]),.code (P17 [1,1])]
def A17_4 (x1 x2:Int) (x3:Option Addr) (x37:Bool) (M:Mem) (Q:Value→Mem→Prop):Prop:=∀ (g0 g4 g5 g6 g7 g8 g9 gA gB gC gD gE gF gG gH gI gJ gK gL gM gN gO gP gQ gR gS gT gU gV gW gX gY gZ hA hC hD hE hF hG hH hI hJ hK hL hM hN hO hP hQ hR hS hT hU hV hW hX hY hZ h0 h1 h2 h3 h4 h5 h6 h7 h8 h9 jA jB jC jD jE jF jG jH jI jJ jK jL jM jN jO jP jQ jR jS jT jU jV jW jX jY jZ j0 j1 j2 j3 j4 j5 j6 j7 j8 j9 kA kB kC kD kE kF kG kH kI kJ kK kL kM kN kO kP kQ kR kS kT:Value),Rg Try.prog Try.f17 (O17 [1,0,0]) true 23 S17_4 #[g0,.int .i64 x1,.int .i64 x2,.pointer x3,g4,g5,g6,g7,g8,g9,gA,gB,gC,gD,gE,gF,gG,gH,gI,gJ,gK,gL,gM,gN,gO,gP,gQ,gR,gS,gT,gU,gV,gW,gX,gY,gZ,hA,.bool x37,hC,hD,hE,hF,hG,hH,hI,hJ,hK,hL,hM,hN,hO,hP,hQ,hR,hS,hT,hU,hV,hW,hX,hY,hZ,h0,h1,h2,h3,h4,h5,h6,h7,h8,h9,jA,jB,jC,jD,jE,jF,jG,jH,jI,jJ,jK,jL,jM,jN,jO,jP,jQ,jR,jS,jT,jU,jV,jW,jX,jY,jZ,j0,j1,j2,j3,j4,j5,j6,j7,j8,j9,kA,kB,kC,kD,kE,kF,kG,kH,kI,kJ,kK,kL,kM,kN,kO,kP,kQ,kR,kS,kT] M Q
noncomputable def S17_5:List Item:=[.code (P17 [1,0,1]),.code (P17 [1,1])]
def A17_5 (x1 x2:Int) (x3:Option Addr) (x41:Bool) (M:Mem) (Q:Value→Mem→Prop):Prop:=∀ (g0 g4 g5 g6 g7 g8 g9 gA gB gC gD gE gF gG gH gI gJ gK gL gM gN gO gP gQ gR gS gT gU gV gW gX gY gZ hA hB hC hD hE hG hH hI hJ hK hL hM hN hO hP hQ hR hS hT hU hV hW hX hY hZ h0 h1 h2 h3 h4 h5 h6 h7 h8 h9 jA jB jC jD jE jF jG jH jI jJ jK jL jM jN jO jP jQ jR jS jT jU jV jW jX jY jZ j0 j1 j2 j3 j4 j5 j6 j7 j8 j9 kA kB kC kD kE kF kG kH kI kJ kK kL kM kN kO kP kQ kR kS kT:Value),Rg Try.prog Try.f17 (O17 [1,0,0]) true 27 S17_5 #[g0,.int .i64 x1,.int .i64 x2,.pointer x3,g4,g5,g6,g7,g8,g9,gA,gB,gC,gD,gE,gF,gG,gH,gI,gJ,gK,gL,gM,gN,gO,gP,gQ,gR,gS,gT,gU,gV,gW,gX,gY,gZ,hA,hB,hC,hD,hE,.bool x41,hG,hH,hI,hJ,hK,hL,hM,hN,hO,hP,hQ,hR,hS,hT,hU,hV,hW,hX,hY,hZ,h0,h1,h2,h3,h4,h5,h6,h7,h8,h9,jA,jB,jC,jD,jE,jF,jG,jH,jI,jJ,jK,jL,jM,jN,jO,jP,jQ,jR,jS,jT,jU,jV,jW,jX,jY,jZ,j0,j1,j2,j3,j4,j5,j6,j7,j8,j9,kA,kB,kC,kD,kE,kF,kG,kH,kI,kJ,kK,kL,kM,kN,kO,kP,kQ,kR,kS,kT] M Q
noncomputable def S17_6:List Item:=[.code (P17 [1,0,1]),.code (P17 [1,1])]
def A17_6 (x1 x2:Int) (x3:Option Addr) (x49:Bool) (M:Mem) (Q:Value→Mem→Prop):Prop:=∀ (g0 g4 g5 g6 g7 g8 g9 gA gB gC gD gE gF gG gH gI gJ gK gL gM gN gO gP gQ gR gS gT gU gV gW gX gY gZ hA hB hC hD hE hF hG hH hI hJ hK hL hM hO hP hQ hR hS hT hU hV hW hX hY hZ h0 h1 h2 h3 h4 h5 h6 h7 h8 h9 jA jB jC jD jE jF jG jH jI jJ jK jL jM jN jO jP jQ jR jS jT jU jV jW jX jY jZ j0 j1 j2 j3 j4 j5 j6 j7 j8 j9 kA kB kC kD kE kF kG kH kI kJ kK kL kM kN kO kP kQ kR kS kT:Value),Rg Try.prog Try.f17 (O17 [1,0,0]) true 35 S17_6 #[g0,.int .i64 x1,.int .i64 x2,.pointer x3,g4,g5,g6,g7,g8,g9,gA,gB,gC,gD,gE,gF,gG,gH,gI,gJ,gK,gL,gM,gN,gO,gP,gQ,gR,gS,gT,gU,gV,gW,gX,gY,gZ,hA,hB,hC,hD,hE,hF,hG,hH,hI,hJ,hK,hL,hM,.bool x49,hO,hP,hQ,hR,hS,hT,hU,hV,hW,hX,hY,hZ,h0,h1,h2,h3,h4,h5,h6,h7,h8,h9,jA,jB,jC,jD,jE,jF,jG,jH,jI,jJ,jK,jL,jM,jN,jO,jP,jQ,jR,jS,jT,jU,jV,jW,jX,jY,jZ,j0,j1,j2,j3,j4,j5,j6,j7,j8,j9,kA,kB,kC,kD,kE,kF,kG,kH,kI,kJ,kK,kL,kM,kN,kO,kP,kQ,kR,kS,kT] M Q
noncomputable def S17_7:List Item:=[.code (P17 [1,0,1]),.code (P17 [1,1])]
def A17_7 (x1 x2:Int) (x3:Option Addr) (x56:Bool) (M:Mem) (Q:Value→Mem→Prop):Prop:=∀ (g0 g4 g5 g6 g7 g8 g9 gA gB gC gD gE gF gG gH gI gJ gK gL gM gN gO gP gQ gR gS gT gU gV gW gX gY gZ hA hB hC hD hE hF hG hH hI hJ hK hL hM hN hO hP hQ hR hS hT hV hW hX hY hZ h0 h1 h2 h3 h4 h5 h6 h7 h8 h9 jA jB jC jD jE jF jG jH jI jJ jK jL jM jN jO jP jQ jR jS jT jU jV jW jX jY jZ j0 j1 j2 j3 j4 j5 j6 j7 j8 j9 kA kB kC kD kE kF kG kH kI kJ kK kL kM kN kO kP kQ kR kS kT:Value),Rn Try.prog Try.f17 S17_7 #[g0,.int .i64 x1,.int .i64 x2,.pointer x3,g4,g5,g6,g7,g8,g9,gA,gB,gC,gD,gE,gF,gG,gH,gI,gJ,gK,gL,gM,gN,gO,gP,gQ,gR,gS,gT,gU,gV,gW,gX,gY,gZ,hA,hB,hC,hD,hE,hF,hG,hH,hI,hJ,hK,hL,hM,hN,hO,hP,hQ,hR,hS,hT,.bool x56,hV,hW,hX,hY,hZ,h0,h1,h2,h3,h4,h5,h6,h7,h8,h9,jA,jB,jC,jD,jE,jF,jG,jH,jI,jJ,jK,jL,jM,jN,jO,jP,jQ,jR,jS,jT,jU,jV,jW,jX,jY,jZ,j0,j1,j2,j3,j4,j5,j6,j7,j8,j9,kA,kB,kC,kD,kE,kF,kG,kH,kI,kJ,kK,kL,kM,kN,kO,kP,kQ,kR,kS,kT] M Q
noncomputable def S17_8:List Item:=[.code (P17 [1,1,1,0,1,0,0]),.inLoop (P17 [1,1,1,0,1,0,0]),.inBlock 0,.code (P17 [1,1,1,1])]
def A17_8 (x1 x2:Int) (x3 Y8:Option Addr) (l8 y8:Nat) (x9:Int) (M:Mem) (Q:Value→Mem→Prop):Prop:=∀ (g0 g4 g5 g6 g7 gA gB gC gD gE gF gG gH gI gJ gK gL gM gN gO gP gQ gR gS gT gU gV gW gX gY gZ hA hB hC hD hE hF hG hH hI hJ hK hL hM hN hO hP hQ hR hS hT hU hV hW hX hY hZ h0 h1 h2 h3 h4 h5 h6 h7 h8 h9 jA jB jC jD jE jF jG jH jI jJ jK jL jM jN jO jP jQ jR jS jT jU jV jW jX jY jZ j0 j1 j2 j3 j4 j5 j6 j7 j8 j9 kA kB kC kD kE kF kG kH kI kJ kK kL kM kN kO kP kQ kR kS kT:Value),Rn Try.prog Try.f17 S17_8 #[g0,.int .i64 x1,.int .i64 x2,.pointer x3,g4,g5,g6,g7,.slice Y8 l8 y8,.int .i64 x9,gA,gB,gC,gD,gE,gF,gG,gH,gI,gJ,gK,gL,gM,gN,gO,gP,gQ,gR,gS,gT,gU,gV,gW,gX,gY,gZ,hA,hB,hC,hD,hE,hF,hG,hH,hI,hJ,hK,hL,hM,hN,hO,hP,hQ,hR,hS,hT,hU,hV,hW,hX,hY,hZ,h0,h1,h2,h3,h4,h5,h6,h7,h8,h9,jA,jB,jC,jD,jE,jF,jG,jH,jI,jJ,jK,jL,jM,jN,jO,jP,jQ,jR,jS,jT,jU,jV,jW,jX,jY,jZ,j0,j1,j2,j3,j4,j5,j6,j7,j8,j9,kA,kB,kC,kD,kE,kF,kG,kH,kI,kJ,kK,kL,kM,kN,kO,kP,kQ,kR,kS,kT] M Q
noncomputable def S17_9:List Item:=[.code (P17 [1,1,1,0,1,0,0,1,0,0,1,0,0]),.inLoop (P17 [1,1,1,0,1,0,0,1,0,0,1,0,0]),.inBlock 2,.inBlock 1,.code (P17 [1,1,1,0,1,0,0,1,1]),.inLoop (P17 [1,1,1,0,1,0,0]),.inBlock 0,.code (P17 [1,1,1,1])]
def A17_9 (x1 x2:Int) (x3 Y8:Option Addr) (l8 y8:Nat) (x9 x10:Int) (M:Mem) (Q:Value→Mem→Prop):Prop:=∀ (g0 g4 g5 g6 g7 gB gC gD gE gF gG gH gI gJ gK gL gM gN gO gP gQ gR gS gT gU gV gW gX gY gZ hA hB hC hD hE hF hG hH hI hJ hK hL hM hN hO hP hQ hR hS hT hU hV hW hX hY hZ h0 h1 h2 h3 h4 h5 h6 h7 h8 h9 jA jB jC jD jE jF jG jH jI jJ jK jL jM jN jO jP jQ jR jS jT jU jV jW jX jY jZ j0 j1 j2 j3 j4 j5 j6 j7 j8 j9 kA kB kC kD kE kF kG kH kI kJ kK kL kM kN kO kP kQ kR kS kT:Value),Rn Try.prog Try.f17 S17_9 #[g0,.int .i64 x1,.int .i64 x2,.pointer x3,g4,g5,g6,g7,.slice Y8 l8 y8,.int .i64 x9,.int .i64 x10,gB,gC,gD,gE,gF,gG,gH,gI,gJ,gK,gL,gM,gN,gO,gP,gQ,gR,gS,gT,gU,gV,gW,gX,gY,gZ,hA,hB,hC,hD,hE,hF,hG,hH,hI,hJ,hK,hL,hM,hN,hO,hP,hQ,hR,hS,hT,hU,hV,hW,hX,hY,hZ,h0,h1,h2,h3,h4,h5,h6,h7,h8,h9,jA,jB,jC,jD,jE,jF,jG,jH,jI,jJ,jK,jL,jM,jN,jO,jP,jQ,jR,jS,jT,jU,jV,jW,jX,jY,jZ,j0,j1,j2,j3,j4,j5,j6,j7,j8,j9,kA,kB,kC,kD,kE,kF,kG,kH,kI,kJ,kK,kL,kM,kN,kO,kP,kQ,kR,kS,kT] M Q
theorem w17_0 {x0_0 x0_1 x1 x2:Int} {M:Mem} {Q:Value→Mem→Prop} (H :
 ∃x1',(M.new (.cells #[.int .i64 x0_0,.int .i64 x0_1] 32)).intAt .i64 (2*M.nb.size) 0=some x1'∧
 Cn Try.prog 32 #[.int .i64 x1'] (M.new (.cells #[.int .i64 x0_0,.int .i64 x0_1] 32)) fun v2' N2'=>
 ∃b3',asB v2'=some b3'∧
 (((!b3')=true→
 A17_1 x1 x2 (some ⟨2*M.nb.size,0,none⟩) true N2' Q)∧
 ((!b3')=false→
 ∃x4',N2'.intAt .i64 (2*M.nb.size) (0+1)=some x4'∧
 Cn Try.prog 32 #[.int .i64 x4'] N2' fun v5' N5'=>
 ∃b6',asB v5'=some b6'∧
 A17_1 x1 x2 (some ⟨2*M.nb.size,0,none⟩) (!b6') N5' Q))):
 Cn Try.prog 17 #[.agg #[.int .i64 x0_0,.int .i64 x0_1],.int .i64 x1,.int .i64 x2] M Q:=by
  refine Cn.of b17 d17 t17 ?_
  refine Rn.seq k17_0 (Rn.region k17_1 (fun call K=>r17_0) (Rch.leaf (Rn.seq k17_2 (Rn.seq k17_3 (Rn.regionC k17_5 (Rg.step (d:=11) (j:=11) (fun call K=>r17_1p0) rfl rfl (Rch.bind (x:=⟨2*M.nb.size,0,none⟩) rfl (Rch.ex H fun x1' H=>Rch.call H fun v2' N2' H=>Rch.ex H fun b3' H=>?_))))))))
  refine Rch.cB (fun h=>?_) (fun h=>?_)
  · replace H:=H.1 (h)
    refine Rch.rest ?_
    exact H ..
  · replace H:=H.2 (h)
    refine Rch.bind (x:=⟨2*M.nb.size,0,none⟩) rfl (Rch.ex H fun x4' H=>Rch.call H fun v5' N5' H=>Rch.ex H fun b6' H=>Rch.rest ?_)
    exact H ..
theorem w17_1 {x1 x2:Int} {x3:Option Addr} {x25:Bool} {M:Mem} {Q:Value→Mem→Prop} (H :
 ((x25=true→
 A17_2 x1 x2 x3 true M Q)∧
 (x25=false→
 A17_2 x1 x2 x3 (decide (x1<0)) M Q))):
 A17_1 x1 x2 x3 x25 M Q:=by
  iterate 124 intro _
  refine Rg.step (d:=4) (j:=15) (fun call K=>r17_1p11) rfl rfl ?_
  refine Rch.cB (fun h=>?_) (fun h=>?_)
  · replace H:=H.1 (h)
    refine Rch.rest ?_
    exact H ..
  · replace H:=H.2 (h)
    refine Rch.rest ?_
    exact H ..
theorem w17_2 {x1 x2:Int} {x3:Option Addr} {x29:Bool} {M:Mem} {Q:Value→Mem→Prop} (H :
 ((x29=true→
 A17_3 x1 x2 x3 true M Q)∧
 (x29=false→
 A17_3 x1 x2 x3 (decide (x1>2)) M Q))):
 A17_2 x1 x2 x3 x29 M Q:=by
  iterate 124 intro _
  refine Rg.step (d:=4) (j:=19) (fun call K=>r17_1p15) rfl rfl ?_
  refine Rch.cB (fun h=>?_) (fun h=>?_)
  · replace H:=H.1 (h)
    refine Rch.rest ?_
    exact H ..
  · replace H:=H.2 (h)
    refine Rch.rest ?_
    exact H ..
theorem w17_3 {x1 x2:Int} {x3:Option Addr} {x33:Bool} {M:Mem} {Q:Value→Mem→Prop} (H :
 ((x33=true→
 A17_4 x1 x2 x3 true M Q)∧
 (x33=false→
 A17_4 x1 x2 x3 (decide (x2<0)) M Q))):
 A17_3 x1 x2 x3 x33 M Q:=by
  iterate 124 intro _
  refine Rg.step (d:=4) (j:=23) (fun call K=>r17_1p19) rfl rfl ?_
  refine Rch.cB (fun h=>?_) (fun h=>?_)
  · replace H:=H.1 (h)
    refine Rch.rest ?_
    exact H ..
  · replace H:=H.2 (h)
    refine Rch.rest ?_
    exact H ..
theorem w17_4 {x1 x2:Int} {x3:Option Addr} {x37:Bool} {M:Mem} {Q:Value→Mem→Prop} (H :
 ((x37=true→
 A17_5 x1 x2 x3 true M Q)∧
 (x37=false→
 A17_5 x1 x2 x3 (decide (x2>2)) M Q))):
 A17_4 x1 x2 x3 x37 M Q:=by
  iterate 124 intro _
  refine Rg.step (d:=4) (j:=27) (fun call K=>r17_1p23) rfl rfl ?_
  refine Rch.cB (fun h=>?_) (fun h=>?_)
  · replace H:=H.1 (h)
    refine Rch.rest ?_
    exact H ..
  · replace H:=H.2 (h)
    refine Rch.rest ?_
    exact H ..
theorem w17_5 {x1 x2:Int} {x3:Option Addr} {x41:Bool} {M:Mem} {Q:Value→Mem→Prop} (H :
 ((x41=true→
 A17_6 x1 x2 x3 true M Q)∧
 (x41=false→
 ∃v7',binV Try.prog .shl 3 3 (.int .i64 1) (.int .i64 x1)=some v7'∧
 ∃x8',asI .i64 v7'=some x8'∧
 ∃a9',x3=some a9'∧
 ∃x10',M.intAt .i64 a9'.block a9'.off=some x10'∧
 Cn Try.prog 33 #[.int .i64 x10'] M fun v11' N11'=>
 ∃x12',asI .i64 v11'=some x12'∧
 A17_6 x1 x2 x3 (decide (x8'>x12')) N11' Q))):
 A17_5 x1 x2 x3 x41 M Q:=by
  iterate 124 intro _
  refine Rg.step (d:=8) (j:=35) (fun call K=>r17_1p27) rfl rfl ?_
  refine Rch.cB (fun h=>?_) (fun h=>?_)
  · replace H:=H.1 (h)
    refine Rch.rest ?_
    exact H ..
  · replace H:=H.2 (h)
    refine Rch.ex H fun v7' H=>Rch.ex H fun x8' H=>Rch.ex H fun a9' H=>Rch.ex H fun x10' H=>Rch.call H fun v11' N11' H=>Rch.ex H fun x12' H=>Rch.rest ?_
    exact H ..
theorem w17_6 {x1 x2:Int} {x3:Option Addr} {x49:Bool} {M:Mem} {Q:Value→Mem→Prop} (H :
 ((x49=true→
 A17_7 x1 x2 x3 true M Q)∧
 (x49=false→
 ∃v13',binV Try.prog .shl 3 3 (.int .i64 1) (.int .i64 x2)=some v13'∧
 ∃x14',asI .i64 v13'=some x14'∧
 ∃a15',x3=some a15'∧
 ∃x16',M.intAt .i64 a15'.block (a15'.off+1)=some x16'∧
 Cn Try.prog 33 #[.int .i64 x16'] M fun v17' N17'=>
 ∃x18',asI .i64 v17'=some x18'∧
 A17_7 x1 x2 x3 (decide (x14'>x18')) N17' Q))):
 A17_6 x1 x2 x3 x49 M Q:=by
  iterate 124 intro _
  refine Rg.step (d:=7) (j:=42) (fun call K=>r17_1p35) rfl rfl ?_
  refine Rch.cB (fun h=>?_) (fun h=>?_)
  · replace H:=H.1 (h)
    refine Rch.rest (Rg.done rfl ?_)
    exact H ..
  · replace H:=H.2 (h)
    refine Rch.ex H fun v13' H=>Rch.ex H fun x14' H=>Rch.ex H fun a15' H=>Rch.ex H fun x16' H=>Rch.call H fun v17' N17' H=>Rch.ex H fun x18' H=>Rch.rest (Rg.done rfl ?_)
    exact H ..
theorem w17_7 {x1 x2:Int} {x3:Option Addr} {x56:Bool} {M:Mem} {Q:Value→Mem→Prop} (H :
 ((x56=true→
 Q (.tuple #[.slice none 0 0,.int .i64 2]) M)∧
 (x56=false→
 A17_8 x1 x2 x3 none 0 0 0 M Q))):
 A17_7 x1 x2 x3 x56 M Q:=by
  iterate 124 intro _
  refine Rn.cnd (v:=x56) ⟨c17_6,rfl,by kernel_rfl⟩ (fun h=>?_) (fun h=>?_)
  · replace H:=H.1 (h)
    refine Rn.seq k17_7 (Rn.region k17_8 (fun call K=>r17_2) (Rch.leaf ?_))
    exact Rn.ret k17_9 e17 H
  · replace H:=H.2 (h)
    refine Rn.skip k17_11 (Rn.seq k17_12 (Rn.region k17_13 (fun call K=>r17_3) (Rch.leaf (Rn.seq k17_14 (Rn.seq k17_15 (Rn.region k17_16 (fun call K=>r17_4) (Rch.leaf (Rn.block k17_17 (Rn.loop k17_18 ?_)))))))))
    exact H ..
theorem w17_8 {x1 x2:Int} {x3 Y8:Option Addr} {l8 y8:Nat} {x9:Int} {M:Mem} {Q:Value→Mem→Prop} (H :
 ∃v19',binV Try.prog .shl 3 3 (.int .i64 1) (.int .i64 x2)=some v19'∧
 ∃x20',asI .i64 v19'=some x20'∧
 ((x9<x20'→
 A17_9 x1 x2 x3 Y8 l8 y8 x9 0 M Q)∧
 (¬(x9<x20')→
 Q (.tuple #[.slice Y8 l8 y8,.int .i64 0]) M))):
 A17_8 x1 x2 x3 Y8 l8 y8 x9 M Q:=by
  iterate 123 intro _
  refine Rn.seq k17_19 (Rn.seq k17_20 (Rn.region k17_21 (fun call K=>r17_5) (Rch.ex H fun v19' H=>Rch.ex H fun x20' H=>Rch.leaf ?_)))
  refine Rn.cnd (v:=decide (x9<x20')) ⟨c17_22,rfl,by kernel_rfl⟩ (fun h=>?_) (fun h=>?_)
  · replace H:=H.1 (of_decide_eq_true h)
    refine Rn.skip k17_23 (Rn.seq k17_24 (Rn.block k17_25 (Rn.seq k17_26 (Rn.region k17_27 (fun call K=>r17_7) (Rch.leaf (Rn.block k17_28 (Rn.loop k17_29 ?_)))))))
    exact H ..
  · replace H:=H.2 (of_decide_eq_false h)
    refine Rn.exit k17_30 rfl (Rn.seq k17_31 (Rn.region k17_32 (fun call K=>r17_15) (Rch.leaf ?_)))
    exact Rn.ret k17_33 e17 H
theorem w17_9 {x1 x2:Int} {x3 Y8:Option Addr} {l8 y8:Nat} {x9 x10:Int} {M:Mem} {Q:Value→Mem→Prop} (H :
 ∃v21',binV Try.prog .shl 3 3 (.int .i64 1) (.int .i64 x1)=some v21'∧
 ∃x22',asI .i64 v21'=some x22'∧
 ((x10<x22'→
 ∃a23',x3=some a23'∧
 ∃x24',M.intAt .i64 a23'.block a23'.off=some x24'∧
 ∃v25',binV Try.prog .shl 3 3 (.int .i64 1) (.int .i64 x1)=some v25'∧
 ∃x26',asI .i64 v25'=some x26'∧
 Cn Try.prog 33 #[.int .i64 x24'] M fun v27' N27'=>
 ∃x28',asI .i64 v27'=some x28'∧
 ∃v29',binV Try.prog .quo 3 3 (.int .i64 (IntKind.i64.wrap (x10*x28'))) (.int .i64 x26')=some v29'∧
 ∃x30',asI .i64 v29'=some x30'∧
 ∃a31',x3=some a31'∧
 ∃x32',N27'.intAt .i64 a31'.block (a31'.off+1)=some x32'∧
 ∃v33',binV Try.prog .shl 3 3 (.int .i64 1) (.int .i64 x2)=some v33'∧
 ∃x34',asI .i64 v33'=some x34'∧
 Cn Try.prog 33 #[.int .i64 x32'] N27' fun v35' N35'=>
 ∃x36',asI .i64 v35'=some x36'∧
 ∃v37',binV Try.prog .quo 3 3 (.int .i64 (IntKind.i64.wrap (x9*x36'))) (.int .i64 x34')=some v37'∧
 ∃x38',asI .i64 v37'=some x38'∧
 ∃a39',x3=some a39'∧
 ∃x40',N35'.intAt .i64 a39'.block a39'.off=some x40'∧
 ∃v41',binV Try.prog .shl 3 3 (.int .i64 1) (.int .i64 x1)=some v41'∧
 ∃x42',asI .i64 v41'=some x42'∧
 ∃a43',x3=some a43'∧
 ∃x44',N35'.intAt .i64 a43'.block a43'.off=some x44'∧
 Cn Try.prog 33 #[.int .i64 x40'] {N35' with floor:=N35'.nb.size} fun v45' N45'=>
 ∃x46',asI .i64 v45'=some x46'∧
 ∃v47',binV Try.prog .quo 3 3 (.int .i64 (IntKind.i64.wrap ((IntKind.i64.wrap (x10+1))*x46'))) (.int .i64 x42')=some v47'∧
 ∃x48',asI .i64 v47'=some x48'∧
 Cn Try.prog 34 #[.int .i64 x44'] {N45' with floor:=N35'.floor} fun v49' N49'=>
 ∃x50',asI .i64 v49'=some x50'∧
 ∃a51',x3=some a51'∧
 ∃x52',N49'.intAt .i64 a51'.block (a51'.off+1)=some x52'∧
 ∃v53',binV Try.prog .shl 3 3 (.int .i64 1) (.int .i64 x2)=some v53'∧
 ∃x54',asI .i64 v53'=some x54'∧
 ∃a55',x3=some a55'∧
 ∃x56',N49'.intAt .i64 a55'.block (a55'.off+1)=some x56'∧
 Cn Try.prog 33 #[.int .i64 x52'] {N49' with floor:=N49'.nb.size} fun v57' N57'=>
 ∃x58',asI .i64 v57'=some x58'∧
 ∃v59',binV Try.prog .quo 3 3 (.int .i64 (IntKind.i64.wrap ((IntKind.i64.wrap (x9+1))*x58'))) (.int .i64 x54')=some v59'∧
 ∃x60',asI .i64 v59'=some x60'∧
 Cn Try.prog 34 #[.int .i64 x56'] {N57' with floor:=N49'.floor} fun v61' N61'=>
 ∃x62',asI .i64 v61'=some x62'∧
 ∃r63',appendP Try.prog #[36,36] (.slice Y8 l8 y8) (.slice (some ⟨2*N61'.nb.size,0,none⟩) 1 1) (N61'.new (.cells #[.int .i64 (IntKind.i64.wrap (x30'*64)),.int .i64 (IntKind.i64.wrap (x38'*64)),.int .i64 (IntKind.i64.wrap ((if x50'<IntKind.i64.wrap (x48'*64) then x50' else IntKind.i64.wrap (x48'*64))-(IntKind.i64.wrap (x30'*64)))),.int .i64 (IntKind.i64.wrap ((if x62'<IntKind.i64.wrap (x60'*64) then x62' else IntKind.i64.wrap (x60'*64))-(IntKind.i64.wrap (x38'*64))))] 35))=some r63'∧
 ∃s64',asS r63'.1=some s64'∧
 A17_9 x1 x2 x3 s64'.1 s64'.2.1 s64'.2.2 x9 (IntKind.i64.wrap (x10+1)) r63'.2 Q)∧
 (¬(x10<x22')→
 A17_8 x1 x2 x3 Y8 l8 y8 (IntKind.i64.wrap (x9+1)) M Q))):
 A17_9 x1 x2 x3 Y8 l8 y8 x9 x10 M Q:=by
  iterate 122 intro _
  refine Rn.seq k17_34 (Rn.seq k17_35 (Rn.region k17_36 (fun call K=>r17_8) (Rch.ex H fun v21' H=>Rch.ex H fun x22' H=>Rch.leaf ?_)))
  refine Rn.cnd (v:=decide (x10<x22')) ⟨c17_37,rfl,by kernel_rfl⟩ (fun h=>?_) (fun h=>?_)
  · replace H:=H.1 (of_decide_eq_true h)
    refine Rn.skip k17_38 (Rn.seq k17_39 (Rn.block k17_40 (Rn.seq k17_41 (Rn.regionD k17_42 (fun call K=>r17_10) (Rch.ex H fun a23' H=>Rch.ex H fun x24' H=>Rch.ex H fun v25' H=>Rch.ex H fun x26' H=>Rch.call H fun v27' N27' H=>Rch.ex H fun x28' H=>Rch.ex H fun v29' H=>?_)))))
    refine Rch.ex H fun x30' H=>Rch.leaf (Rn.seq k17_43 (Rn.regionD k17_44 (fun call K=>r17_11) (Rch.ex H fun a31' H=>Rch.ex H fun x32' H=>Rch.ex H fun v33' H=>Rch.ex H fun x34' H=>Rch.call H fun v35' N35' H=>Rch.ex H fun x36' H=>Rch.ex H fun v37' H=>Rch.ex H fun x38' H=>?_)))
    refine Rch.leaf (Rn.seq k17_45 (Rn.regionD k17_46 (fun call K=>r17_12) (Rch.ex H fun a39' H=>Rch.ex H fun x40' H=>Rch.ex H fun v41' H=>Rch.ex H fun x42' H=>Rch.ex H fun a43' H=>Rch.ex H fun x44' H=>Rch.callF H fun v45' N45' H=>Rch.ex H fun x46' H=>Rch.ex H fun v47' H=>?_)))
    refine Rch.ex H fun x48' H=>Rch.call H fun v49' N49' H=>Rch.ex H fun x50' H=>Rch.leaf (Rn.seq k17_47 (Rn.regionD k17_48 (fun call K=>r17_13) (Rch.ex H fun a51' H=>Rch.ex H fun x52' H=>Rch.ex H fun v53' H=>Rch.ex H fun x54' H=>Rch.ex H fun a55' H=>Rch.ex H fun x56' H=>?_)))
    refine Rch.callF H fun v57' N57' H=>Rch.ex H fun x58' H=>Rch.ex H fun v59' H=>Rch.ex H fun x60' H=>Rch.call H fun v61' N61' H=>Rch.ex H fun x62' H=>Rch.leaf (Rn.region k17_49 (fun call K=>r17_14) (Rch.ex H fun r63' H=>Rch.ex H fun s64' H=>Rch.leaf (Rn.blk ?_)))
    refine Rn.region k17_50 (fun call K=>r17_9) (Rch.leaf (Rn.lp ?_))
    exact H ..
  · replace H:=H.2 (of_decide_eq_false h)
    refine Rn.exit k17_51 rfl (Rn.blk (Rn.region k17_52 (fun call K=>r17_6) (Rch.leaf (Rn.lp ?_))))
    exact H ..
noncomputable abbrev P19 (p:List Nat):Code:=subC (codeOf Try.f19) p
noncomputable abbrev O19 (p:List Nat):Array Oper:=opsOf (subC (codeOf Try.f19) p)
theorem b19:Try.prog.funcs[19]?=some Try.f19∧(Orc.tab Try.prog).lookup 19=none:=⟨by kernel_rfl,by kernel_rfl⟩
theorem d19:Try.f19.body=some (P19 []):=by kernel_rfl
theorem t19 {x0_0 x0_1 x0_2 x0_3:Int}:#[.agg #[.int .i64 x0_0,.int .i64 x0_1,.int .i64 x0_2,.int .i64 x0_3]] ++ Array.replicate (Try.f19.ntmps-(#[.agg #[.int .i64 x0_0,.int .i64 x0_1,.int .i64 x0_2,.int .i64 x0_3]]:Array Value).size) undef=#[.agg #[.int .i64 x0_0,.int .i64 x0_1,.int .i64 x0_2,.int .i64 x0_3],undef,undef,undef,undef,undef,undef,undef,undef,undef,undef,undef,undef,undef,undef,undef,undef,undef,undef,undef,undef,undef,undef,undef,undef,undef,undef,undef,undef,undef,undef,undef,undef,undef,undef,undef,undef,undef,undef,undef,undef,undef,undef,undef,undef,undef,undef,undef,undef,undef,undef,undef,undef,undef,undef,undef,undef]:=by kernel_rfl
theorem k19_0:P19 []=.seq (P19 [0]) (P19 [1]):=by kernel_rfl
theorem k19_1:P19 [0]=.region 0 (O19 [0]) false:=by kernel_rfl
theorem r19_0 {x0_0 x0_1 x0_2 x0_3:Int} {M:Mem} {call:CallM} {K:Array Value→Mem→R} :
 opsK Try.prog (fun _=>call) (O19 [0]) (O19 [0]).toList 0 #[.agg #[.int .i64 x0_0,.int .i64 x0_1,.int .i64 x0_2,.int .i64 x0_3],g1,g2,g3,g4,g5,g6,g7,g8,g9,gA,gB,gC,gD,gE,gF,gG,gH,gI,gJ,gK,gL,gM,gN,gO,gP,gQ,gR,gS,gT,gU,gV,gW,gX,gY,gZ,hA,hB,hC,hD,hE,hF,hG,hH,hI,hJ,hK,hL,hM,hN,hO,hP,hQ,hR,hS,hT,hU] M K=K #[.agg #[.int .i64 x0_0,.int .i64 x0_1,.int .i64 x0_2,.int .i64 x0_3],.pointer (some ⟨2*M.nb.size,0,none⟩),.slice none 0 0,g3,g4,g5,g6,g7,g8,g9,gA,gB,gC,gD,gE,gF,gG,gH,gI,gJ,gK,gL,gM,gN,gO,gP,gQ,gR,gS,gT,gU,gV,gW,gX,gY,gZ,hA,hB,hC,hD,hE,hF,hG,hH,hI,hJ,hK,hL,hM,hN,hO,hP,hQ,hR,hS,hT,hU] (M.new (.cells #[.int .i64 x0_0,.int .i64 x0_1,.int .i64 x0_2,.int .i64 x0_3] 35)):=by kernel_rfl
theorem k19_2:P19 [1]=.seq (P19 [1,0]) (P19 [1,1]):=by kernel_rfl
theorem k19_3:P19 [1,0]=.seq (P19 [1,0,0]) (P19 [1,0,1]):=by kernel_rfl
theorem k19_5:P19 [1,0,0]=.region 1 (O19 [1,0,0]) false∧(!false || drawOk (O19 [1,0,0]))=true:=⟨by kernel_rfl,by kernel_rfl⟩
theorem r19_1p0 {x1:Option Addr} {M:Mem} {call:CallM} {K:Array Value→Mem→R} :
 segK Try.prog false call (O19 [1,0,0]) 0 11 #[g0,.pointer x1,g2,g3,g4,g5,g6,g7,g8,g9,gA,gB,gC,gD,gE,gF,gG,gH,gI,gJ,gK,gL,gM,gN,gO,gP,gQ,gR,gS,gT,gU,gV,gW,gX,gY,gZ,hA,hB,hC,hD,hE,hF,hG,hH,hI,hJ,hK,hL,hM,hN,hO,hP,hQ,hR,hS,hT,hU] M K=withK (fun w6 w7 w8 w9 w10 w11 w12 w13 w14 w15 w16 M=>K #[g0,.pointer x1,g2,g3,g4,g5,w6,w7,w8,w9,w10,w11,w12,w13,w14,w15,w16,gH,gI,gJ,gK,gL,gM,gN,gO,gP,gQ,gR,gS,gT,gU,gV,gW,gX,gY,gZ,hA,hB,hC,hD,hE,hF,hG,hH,hI,hJ,hK,hL,hM,hN,hO,hP,hQ,hR,hS,hT,hU] M) fun k=>(x1).bind fun a_1=>(M.intAt .i64 a_1.block (a_1.off+2)).bind fun x_2=>(call 35 #[.int .i64 x_2,.int .i64 1,.int .i64 256] M).bind fun r_3=>(asB r_3.1).bind fun b_4=>cond (!b_4) (k (.pointer (some ⟨a_1.block,a_1.off+2,none⟩)) (.int .i64 x_2) (.bool b_4) (.bool (!b_4)) (.bool true) undef undef undef undef (.bool true) (.bool true) r_3.2) ((x1).bind fun a_5=>(r_3.2.intAt .i64 a_5.block (a_5.off+3)).bind fun x_6=>(call 35 #[.int .i64 x_6,.int .i64 1,.int .i64 256] r_3.2).bind fun r_7=>(asB r_7.1).bind fun b_8=>k (.pointer (some ⟨a_1.block,a_1.off+2,none⟩)) (.int .i64 x_2) (.bool b_4) (.bool (!b_4)) (.bool false) (.pointer (some ⟨a_5.block,a_5.off+3,none⟩)) (.int .i64 x_6) (.bool b_8) (.bool (!b_8)) (.bool (!b_8)) (.bool (!b_8)) r_7.2):=by kernel_rfl
theorem r19_1p11 {x1:Option Addr} {x16:Bool} {M:Mem} {call:CallM} {K:Array Value→Mem→R} :
 segK Try.prog false call (O19 [1,0,0]) 11 6 #[g0,.pointer x1,g2,g3,g4,g5,g6,g7,g8,g9,gA,gB,gC,gD,gE,gF,.bool x16,gH,gI,gJ,gK,gL,gM,gN,gO,gP,gQ,gR,gS,gT,gU,gV,gW,gX,gY,gZ,hA,hB,hC,hD,hE,hF,hG,hH,hI,hJ,hK,hL,hM,hN,hO,hP,hQ,hR,hS,hT,hU] M K=withK (fun w16 w17 w18 w19 w20 w21 w22 M=>K #[g0,.pointer x1,g2,g3,g4,g5,g6,g7,g8,g9,gA,gB,gC,gD,gE,gF,w16,w17,w18,w19,w20,w21,w22,gN,gO,gP,gQ,gR,gS,gT,gU,gV,gW,gX,gY,gZ,hA,hB,hC,hD,hE,hF,hG,hH,hI,hJ,hK,hL,hM,hN,hO,hP,hQ,hR,hS,hT,hU] M) fun k=>cond x16 (k (.bool true) undef undef undef undef (.bool true) (.bool true) M) ((x1).bind fun a_1=>(M.intAt .i64 a_1.block a_1.off).bind fun x_2=>(call 35 #[.int .i64 x_2,.int .i64 0,.int .i64 256] M).bind fun r_3=>(asB r_3.1).bind fun b_4=>k (.bool false) (.pointer (some ⟨a_1.block,a_1.off,none⟩)) (.int .i64 x_2) (.bool b_4) (.bool (!b_4)) (.bool (!b_4)) (.bool (!b_4)) r_3.2):=by kernel_rfl
theorem r19_1p17 {x1:Option Addr} {x22:Bool} {M:Mem} {call:CallM} {K:Array Value→Mem→R} :
 segK Try.prog false call (O19 [1,0,0]) 17 5 #[g0,.pointer x1,g2,g3,g4,g5,g6,g7,g8,g9,gA,gB,gC,gD,gE,gF,gG,gH,gI,gJ,gK,gL,.bool x22,gN,gO,gP,gQ,gR,gS,gT,gU,gV,gW,gX,gY,gZ,hA,hB,hC,hD,hE,hF,hG,hH,hI,hJ,hK,hL,hM,hN,hO,hP,hQ,hR,hS,hT,hU] M K=withK (fun w22 w23 w24 w25 w26 w27 M=>K #[g0,.pointer x1,g2,g3,g4,g5,g6,g7,g8,g9,gA,gB,gC,gD,gE,gF,gG,gH,gI,gJ,gK,gL,w22,w23,w24,w25,w26,w27,gS,gT,gU,gV,gW,gX,gY,gZ,hA,hB,hC,hD,hE,hF,hG,hH,hI,hJ,hK,hL,hM,hN,hO,hP,hQ,hR,hS,hT,hU] M) fun k=>cond x22 (k (.bool true) undef undef undef undef (.bool true) M) ((x1).bind fun a_1=>(M.intAt .i64 a_1.block (a_1.off+1)).bind fun x_2=>(call 35 #[.int .i64 x_2,.int .i64 0,.int .i64 256] M).bind fun r_3=>(asB r_3.1).bind fun b_4=>k (.bool false) (.pointer (some ⟨a_1.block,a_1.off+1,none⟩)) (.int .i64 x_2) (.bool b_4) (.bool (!b_4)) (.bool (!b_4)) r_3.2):=by kernel_rfl
theorem c19_6:P19 [1,0,1]=.cond (.tmp 27) (P19 [1,0,1,0]) (P19 [1,0,1,1]):=by kernel_rfl
theorem k19_7:P19 [1,0,1,0]=.seq (P19 [1,0,1,0,0]) (P19 [1,0,1,0,1]):=by kernel_rfl
theorem k19_8:P19 [1,0,1,0,0]=.region 2 (O19 [1,0,1,0,0]) false:=by kernel_rfl
theorem r19_2 {M:Mem} {call:CallM} {K:Array Value→Mem→R} :
 opsK Try.prog (fun _=>call) (O19 [1,0,1,0,0]) (O19 [1,0,1,0,0]).toList 0 #[g0,g1,g2,g3,g4,g5,g6,g7,g8,g9,gA,gB,gC,gD,gE,gF,gG,gH,gI,gJ,gK,gL,gM,gN,gO,gP,gQ,gR,gS,gT,gU,gV,gW,gX,gY,gZ,hA,hB,hC,hD,hE,hF,hG,hH,hI,hJ,hK,hL,hM,hN,hO,hP,hQ,hR,hS,hT,hU] M K=K #[g0,g1,.slice none 0 0,g3,g4,g5,g6,g7,g8,g9,gA,gB,gC,gD,gE,gF,gG,gH,gI,gJ,gK,gL,gM,gN,gO,gP,gQ,gR,gS,gT,gU,gV,gW,gX,gY,gZ,hA,hB,hC,hD,hE,hF,hG,hH,hI,hJ,hK,hL,hM,hN,hO,hP,hQ,hR,hS,hT,hU] M:=by kernel_rfl
theorem k19_9:P19 [1,0,1,0,1]=.ret:=by kernel_rfl
theorem e19 {M:Mem}:finish Try.prog Try.f19 #[g0,g1,g2,g3,g4,g5,g6,g7,g8,g9,gA,gB,gC,gD,gE,gF,gG,gH,gI,gJ,gK,gL,gM,gN,gO,gP,gQ,gR,gS,gT,gU,gV,gW,gX,gY,gZ,hA,hB,hC,hD,hE,hF,hG,hH,hI,hJ,hK,hL,hM,hN,hO,hP,hQ,hR,hS,hT,hU] M=some (g2,M):=by kernel_rfl
theorem k19_11:P19 [1,0,1,1]=.skip:=by kernel_rfl
theorem k19_12:P19 [1,1]=.seq (P19 [1,1,0]) (P19 [1,1,1]):=by kernel_rfl
theorem k19_13:P19 [1,1,0]=.region 3 (O19 [1,1,0]) false:=by kernel_rfl
theorem r19_3 {M:Mem} {call:CallM} {K:Array Value→Mem→R} :
 opsK Try.prog (fun _=>call) (O19 [1,1,0]) (O19 [1,1,0]).toList 0 #[g0,g1,g2,g3,g4,g5,g6,g7,g8,g9,gA,gB,gC,gD,gE,gF,gG,gH,gI,gJ,gK,gL,gM,gN,gO,gP,gQ,gR,gS,gT,gU,gV,gW,gX,gY,gZ,hA,hB,hC,hD,hE,hF,hG,hH,hI,hJ,hK,hL,hM,hN,hO,hP,hQ,hR,hS,hT,hU] M K=K #[g0,g1,g2,.slice none 0 0,g4,g5,g6,g7,g8,g9,gA,gB,gC,gD,gE,gF,gG,gH,gI,gJ,gK,gL,gM,gN,gO,gP,gQ,gR,gS,gT,gU,gV,gW,gX,gY,gZ,hA,hB,hC,hD,hE,hF,hG,hH,hI,hJ,hK,hL,hM,hN,hO,hP,hQ,hR,hS,hT,hU] M:=by kernel_rfl
theorem k19_14:P19 [1,1,1]=.seq (P19 [1,1,1,0]) (P19 [1,1,1,1]):=by kernel_rfl
theorem k19_15:P19 [1,1,1,0]=.seq (P19 [1,1,1,0,0]) (P19 [1,1,1,0,1]):=by kernel_rfl
theorem k19_16:P19 [1,1,1,0,0]=.region 4 (O19 [1,1,1,0,0]) false:=by kernel_rfl
theorem r19_4 {x1:Option Addr} {M:Mem} {call:CallM} {K:Array Value→Mem→R} :
 opsK Try.prog (fun _=>call) (O19 [1,1,1,0,0]) (O19 [1,1,1,0,0]).toList 0 #[g0,.pointer x1,g2,g3,g4,g5,g6,g7,g8,g9,gA,gB,gC,gD,gE,gF,gG,gH,gI,gJ,gK,gL,gM,gN,gO,gP,gQ,gR,gS,gT,gU,gV,gW,gX,gY,gZ,hA,hB,hC,hD,hE,hF,hG,hH,hI,hJ,hK,hL,hM,hN,hO,hP,hQ,hR,hS,hT,hU] M K=(x1).bind fun a_1=>(M.intAt .i64 a_1.block (a_1.off+1)).bind fun x_2=>K #[g0,.pointer x1,g2,g3,.int .i64 x_2,g5,g6,g7,g8,g9,gA,gB,gC,gD,gE,gF,gG,gH,gI,gJ,gK,gL,gM,gN,gO,gP,gQ,gR,.pointer (some ⟨a_1.block,a_1.off+1,none⟩),.int .i64 x_2,gU,gV,gW,gX,gY,gZ,hA,hB,hC,hD,hE,hF,hG,hH,hI,hJ,hK,hL,hM,hN,hO,hP,hQ,hR,hS,hT,hU] M:=by kernel_rfl
theorem k19_17:P19 [1,1,1,0,1]=.block 0 (P19 [1,1,1,0,1,0]):=by kernel_rfl
theorem k19_18:P19 [1,1,1,0,1,0]=.loop (P19 [1,1,1,0,1,0,0]):=by kernel_rfl
theorem k19_19:P19 [1,1,1,0,1,0,0]=.seq (P19 [1,1,1,0,1,0,0,0]) (P19 [1,1,1,0,1,0,0,1]):=by kernel_rfl
theorem k19_20:P19 [1,1,1,0,1,0,0,0]=.seq (P19 [1,1,1,0,1,0,0,0,0]) (P19 [1,1,1,0,1,0,0,0,1]):=by kernel_rfl
theorem k19_21:P19 [1,1,1,0,1,0,0,0,0]=.region 5 (O19 [1,1,1,0,1,0,0,0,0]) false:=by kernel_rfl
theorem r19_5 {x1:Option Addr} {x4:Int} {M:Mem} {call:CallM} {K:Array Value→Mem→R} :
 opsK Try.prog (fun _=>call) (O19 [1,1,1,0,1,0,0,0,0]) (O19 [1,1,1,0,1,0,0,0,0]).toList 0 #[g0,.pointer x1,g2,g3,.int .i64 x4,g5,g6,g7,g8,g9,gA,gB,gC,gD,gE,gF,gG,gH,gI,gJ,gK,gL,gM,gN,gO,gP,gQ,gR,gS,gT,gU,gV,gW,gX,gY,gZ,hA,hB,hC,hD,hE,hF,hG,hH,hI,hJ,hK,hL,hM,hN,hO,hP,hQ,hR,hS,hT,hU] M K=(x1).bind fun a_1=>(M.intAt .i64 a_1.block (a_1.off+1)).bind fun x_2=>(x1).bind fun a_3=>(M.intAt .i64 a_3.block (a_3.off+3)).bind fun x_4=>K #[g0,.pointer x1,g2,g3,.int .i64 x4,g5,g6,g7,g8,g9,gA,gB,gC,gD,gE,gF,gG,gH,gI,gJ,gK,gL,gM,gN,gO,gP,gQ,gR,gS,gT,.int .i64 x4,.pointer (some ⟨a_1.block,a_1.off+1,none⟩),.int .i64 x_2,.pointer (some ⟨a_3.block,a_3.off+3,none⟩),.int .i64 x_4,.int .i64 (IntKind.i64.wrap (x_2+x_4)),.bool (decide (x4<(IntKind.i64.wrap (x_2+x_4)))),hB,hC,hD,hE,hF,hG,hH,hI,hJ,hK,hL,hM,hN,hO,hP,hQ,hR,hS,hT,hU] M:=by kernel_rfl
theorem c19_22:P19 [1,1,1,0,1,0,0,0,1]=.cond (.tmp 36) (P19 [1,1,1,0,1,0,0,0,1,0]) (P19 [1,1,1,0,1,0,0,0,1,1]):=by kernel_rfl
theorem k19_23:P19 [1,1,1,0,1,0,0,0,1,0]=.skip:=by kernel_rfl
theorem k19_24:P19 [1,1,1,0,1,0,0,1]=.seq (P19 [1,1,1,0,1,0,0,1,0]) (P19 [1,1,1,0,1,0,0,1,1]):=by kernel_rfl
theorem k19_25:P19 [1,1,1,0,1,0,0,1,0]=.block 1 (P19 [1,1,1,0,1,0,0,1,0,0]):=by kernel_rfl
theorem k19_26:P19 [1,1,1,0,1,0,0,1,0,0]=.seq (P19 [1,1,1,0,1,0,0,1,0,0,0]) (P19 [1,1,1,0,1,0,0,1,0,0,1]):=by kernel_rfl
theorem k19_27:P19 [1,1,1,0,1,0,0,1,0,0,0]=.region 7 (O19 [1,1,1,0,1,0,0,1,0,0,0]) false:=by kernel_rfl
theorem r19_7 {x1:Option Addr} {M:Mem} {call:CallM} {K:Array Value→Mem→R} :
 opsK Try.prog (fun _=>call) (O19 [1,1,1,0,1,0,0,1,0,0,0]) (O19 [1,1,1,0,1,0,0,1,0,0,0]).toList 0 #[g0,.pointer x1,g2,g3,g4,g5,g6,g7,g8,g9,gA,gB,gC,gD,gE,gF,gG,gH,gI,gJ,gK,gL,gM,gN,gO,gP,gQ,gR,gS,gT,gU,gV,gW,gX,gY,gZ,hA,hB,hC,hD,hE,hF,hG,hH,hI,hJ,hK,hL,hM,hN,hO,hP,hQ,hR,hS,hT,hU] M K=(x1).bind fun a_1=>(M.intAt .i64 a_1.block a_1.off).bind fun x_2=>K #[g0,.pointer x1,g2,g3,g4,.int .i64 x_2,g6,g7,g8,g9,gA,gB,gC,gD,gE,gF,gG,gH,gI,gJ,gK,gL,gM,gN,gO,gP,gQ,gR,gS,gT,gU,gV,gW,gX,gY,gZ,hA,hB,hC,.pointer (some ⟨a_1.block,a_1.off,none⟩),.int .i64 x_2,hF,hG,hH,hI,hJ,hK,hL,hM,hN,hO,hP,hQ,hR,hS,hT,hU] M:=by kernel_rfl
theorem k19_28:P19 [1,1,1,0,1,0,0,1,0,0,1]=.block 2 (P19 [1,1,1,0,1,0,0,1,0,0,1,0]):=by kernel_rfl
theorem k19_29:P19 [1,1,1,0,1,0,0,1,0,0,1,0]=.loop (P19 [1,1,1,0,1,0,0,1,0,0,1,0,0]):=by kernel_rfl
theorem k19_30:P19 [1,1,1,0,1,0,0,0,1,1]=.exit 0:=by kernel_rfl
theorem k19_31:P19 [1,1,1,1]=.seq (P19 [1,1,1,1,0]) (P19 [1,1,1,1,1]):=by kernel_rfl
theorem k19_32:P19 [1,1,1,1,0]=.region 11 (O19 [1,1,1,1,0]) false:=by kernel_rfl
theorem r19_11 {Y3:Option Addr} {l3 y3:Nat} {M:Mem} {call:CallM} {K:Array Value→Mem→R} :
 opsK Try.prog (fun _=>call) (O19 [1,1,1,1,0]) (O19 [1,1,1,1,0]).toList 0 #[g0,g1,g2,.slice Y3 l3 y3,g4,g5,g6,g7,g8,g9,gA,gB,gC,gD,gE,gF,gG,gH,gI,gJ,gK,gL,gM,gN,gO,gP,gQ,gR,gS,gT,gU,gV,gW,gX,gY,gZ,hA,hB,hC,hD,hE,hF,hG,hH,hI,hJ,hK,hL,hM,hN,hO,hP,hQ,hR,hS,hT,hU] M K=K #[g0,g1,.slice Y3 l3 y3,.slice Y3 l3 y3,g4,g5,g6,g7,g8,g9,gA,gB,gC,gD,gE,gF,gG,gH,gI,gJ,gK,gL,gM,gN,gO,gP,gQ,gR,gS,gT,gU,gV,gW,gX,gY,gZ,hA,hB,hC,hD,hE,hF,hG,hH,hI,hJ,hK,hL,hM,hN,hO,hP,hQ,hR,hS,hT,.slice Y3 l3 y3] M:=by kernel_rfl
theorem k19_33:P19 [1,1,1,1,1]=.ret:=by kernel_rfl
theorem k19_34:P19 [1,1,1,0,1,0,0,1,0,0,1,0,0]=.seq (P19 [1,1,1,0,1,0,0,1,0,0,1,0,0,0]) (P19 [1,1,1,0,1,0,0,1,0,0,1,0,0,1]):=by kernel_rfl
theorem k19_35:P19 [1,1,1,0,1,0,0,1,0,0,1,0,0,0]=.seq (P19 [1,1,1,0,1,0,0,1,0,0,1,0,0,0,0]) (P19 [1,1,1,0,1,0,0,1,0,0,1,0,0,0,1]):=by kernel_rfl
theorem k19_36:P19 [1,1,1,0,1,0,0,1,0,0,1,0,0,0,0]=.region 8 (O19 [1,1,1,0,1,0,0,1,0,0,1,0,0,0,0]) false:=by kernel_rfl
theorem r19_8 {x1:Option Addr} {x5:Int} {M:Mem} {call:CallM} {K:Array Value→Mem→R} :
 opsK Try.prog (fun _=>call) (O19 [1,1,1,0,1,0,0,1,0,0,1,0,0,0,0]) (O19 [1,1,1,0,1,0,0,1,0,0,1,0,0,0,0]).toList 0 #[g0,.pointer x1,g2,g3,g4,.int .i64 x5,g6,g7,g8,g9,gA,gB,gC,gD,gE,gF,gG,gH,gI,gJ,gK,gL,gM,gN,gO,gP,gQ,gR,gS,gT,gU,gV,gW,gX,gY,gZ,hA,hB,hC,hD,hE,hF,hG,hH,hI,hJ,hK,hL,hM,hN,hO,hP,hQ,hR,hS,hT,hU] M K=(x1).bind fun a_1=>(M.intAt .i64 a_1.block a_1.off).bind fun x_2=>(x1).bind fun a_3=>(M.intAt .i64 a_3.block (a_3.off+2)).bind fun x_4=>K #[g0,.pointer x1,g2,g3,g4,.int .i64 x5,g6,g7,g8,g9,gA,gB,gC,gD,gE,gF,gG,gH,gI,gJ,gK,gL,gM,gN,gO,gP,gQ,gR,gS,gT,gU,gV,gW,gX,gY,gZ,hA,hB,hC,hD,hE,.int .i64 x5,.pointer (some ⟨a_1.block,a_1.off,none⟩),.int .i64 x_2,.pointer (some ⟨a_3.block,a_3.off+2,none⟩),.int .i64 x_4,.int .i64 (IntKind.i64.wrap (x_2+x_4)),.bool (decide (x5<(IntKind.i64.wrap (x_2+x_4)))),hM,hN,hO,hP,hQ,hR,hS,hT,hU] M:=by kernel_rfl
theorem c19_37:P19 [1,1,1,0,1,0,0,1,0,0,1,0,0,0,1]=.cond (.tmp 47) (P19 [1,1,1,0,1,0,0,1,0,0,1,0,0,0,1,0]) (P19 [1,1,1,0,1,0,0,1,0,0,1,0,0,0,1,1]):=by kernel_rfl
theorem k19_38:P19 [1,1,1,0,1,0,0,1,0,0,1,0,0,0,1,0]=.skip:=by kernel_rfl
theorem k19_39:P19 [1,1,1,0,1,0,0,1,0,0,1,0,0,1]=.seq (P19 [1,1,1,0,1,0,0,1,0,0,1,0,0,1,0]) (P19 [1,1,1,0,1,0,0,1,0,0,1,0,0,1,1]):=by kernel_rfl
theorem k19_40:P19 [1,1,1,0,1,0,0,1,0,0,1,0,0,1,0]=.block 3 (P19 [1,1,1,0,1,0,0,1,0,0,1,0,0,1,0,0]):=by kernel_rfl
theorem k19_41:P19 [1,1,1,0,1,0,0,1,0,0,1,0,0,1,0,0]=.region 10 (O19 [1,1,1,0,1,0,0,1,0,0,1,0,0,1,0,0]) false:=by kernel_rfl
theorem r19_10 {Y3:Option Addr} {l3 y3:Nat} {x4 x5:Int} {M:Mem} {call:CallM} {K:Array Value→Mem→R} :
 opsK Try.prog (fun _=>call) (O19 [1,1,1,0,1,0,0,1,0,0,1,0,0,1,0,0]) (O19 [1,1,1,0,1,0,0,1,0,0,1,0,0,1,0,0]).toList 0 #[g0,g1,g2,.slice Y3 l3 y3,.int .i64 x4,.int .i64 x5,g6,g7,g8,g9,gA,gB,gC,gD,gE,gF,gG,gH,gI,gJ,gK,gL,gM,gN,gO,gP,gQ,gR,gS,gT,gU,gV,gW,gX,gY,gZ,hA,hB,hC,hD,hE,hF,hG,hH,hI,hJ,hK,hL,hM,hN,hO,hP,hQ,hR,hS,hT,hU] M K=(appendP Try.prog #[36,36] (.slice Y3 l3 y3) (.slice (some ⟨2*M.nb.size,0,none⟩) 1 1) (M.new (.cells #[.int .i64 x5,.int .i64 x4,.int .i64 64,.int .i64 64] 35))).bind fun r_1=>(asS r_1.1).bind fun s_2=>K #[g0,g1,g2,.slice s_2.1 (s_2.2.1) (s_2.2.2),.int .i64 x4,.int .i64 x5,g6,g7,g8,g9,gA,gB,gC,gD,gE,gF,gG,gH,gI,gJ,gK,gL,gM,gN,gO,gP,gQ,gR,gS,gT,gU,gV,gW,gX,gY,gZ,hA,hB,hC,hD,hE,hF,hG,hH,hI,hJ,hK,hL,hM,hN,.slice Y3 l3 y3,.int .i64 x5,.int .i64 x4,.agg #[.int .i64 x5,.int .i64 x4,.int .i64 64,.int .i64 64],.slice (some ⟨2*M.nb.size,0,none⟩) 1 1,.slice s_2.1 (s_2.2.1) (s_2.2.2),hU] r_1.2:=by kernel_rfl
theorem k19_42:P19 [1,1,1,0,1,0,0,1,0,0,1,0,0,1,1]=.region 9 (O19 [1,1,1,0,1,0,0,1,0,0,1,0,0,1,1]) false:=by kernel_rfl
theorem r19_9 {x5:Int} {M:Mem} {call:CallM} {K:Array Value→Mem→R} :
 opsK Try.prog (fun _=>call) (O19 [1,1,1,0,1,0,0,1,0,0,1,0,0,1,1]) (O19 [1,1,1,0,1,0,0,1,0,0,1,0,0,1,1]).toList 0 #[g0,g1,g2,g3,g4,.int .i64 x5,g6,g7,g8,g9,gA,gB,gC,gD,gE,gF,gG,gH,gI,gJ,gK,gL,gM,gN,gO,gP,gQ,gR,gS,gT,gU,gV,gW,gX,gY,gZ,hA,hB,hC,hD,hE,hF,hG,hH,hI,hJ,hK,hL,hM,hN,hO,hP,hQ,hR,hS,hT,hU] M K=K #[g0,g1,g2,g3,g4,.int .i64 (IntKind.i64.wrap (x5+64)),g6,g7,g8,g9,gA,gB,gC,gD,gE,gF,gG,gH,gI,gJ,gK,gL,gM,gN,gO,gP,gQ,gR,gS,gT,gU,gV,gW,gX,gY,gZ,hA,hB,hC,hD,hE,hF,hG,hH,hI,hJ,hK,hL,.int .i64 x5,.int .i64 (IntKind.i64.wrap (x5+64)),hO,hP,hQ,hR,hS,hT,hU] M:=by kernel_rfl
theorem k19_43:P19 [1,1,1,0,1,0,0,1,0,0,1,0,0,0,1,1]=.exit 2:=by kernel_rfl
theorem k19_44:P19 [1,1,1,0,1,0,0,1,1]=.region 6 (O19 [1,1,1,0,1,0,0,1,1]) false:=by kernel_rfl
theorem r19_6 {x4:Int} {M:Mem} {call:CallM} {K:Array Value→Mem→R} :
 opsK Try.prog (fun _=>call) (O19 [1,1,1,0,1,0,0,1,1]) (O19 [1,1,1,0,1,0,0,1,1]).toList 0 #[g0,g1,g2,g3,.int .i64 x4,g5,g6,g7,g8,g9,gA,gB,gC,gD,gE,gF,gG,gH,gI,gJ,gK,gL,gM,gN,gO,gP,gQ,gR,gS,gT,gU,gV,gW,gX,gY,gZ,hA,hB,hC,hD,hE,hF,hG,hH,hI,hJ,hK,hL,hM,hN,hO,hP,hQ,hR,hS,hT,hU] M K=K #[g0,g1,g2,g3,.int .i64 (IntKind.i64.wrap (x4+64)),g5,g6,g7,g8,g9,gA,gB,gC,gD,gE,gF,gG,gH,gI,gJ,gK,gL,gM,gN,gO,gP,gQ,gR,gS,gT,gU,gV,gW,gX,gY,gZ,hA,.int .i64 x4,.int .i64 (IntKind.i64.wrap (x4+64)),hD,hE,hF,hG,hH,hI,hJ,hK,hL,hM,hN,hO,hP,hQ,hR,hS,hT,hU] M:=by kernel_rfl
noncomputable def S19_1:List Item:=[.code (P19 [1,0,1]),.code (P19 [1,1])]
def A19_1 (x1:Option Addr) (x16:Bool) (M:Mem) (Q:Value→Mem→Prop):Prop:=∀ (g0 g2 g3 g4 g5 g6 g7 g8 g9 gA gB gC gD gE gF gH gI gJ gK gL gM gN gO gP gQ gR gS gT gU gV gW gX gY gZ hA hB hC hD hE hF hG hH hI hJ hK hL hM hN hO hP hQ hR hS hT hU:Value),Rg Try.prog Try.f19 (O19 [1,0,0]) false 11 S19_1 #[g0,.pointer x1,g2,g3,g4,g5,g6,g7,g8,g9,gA,gB,gC,gD,gE,gF,.bool x16,gH,gI,gJ,gK,gL,gM,gN,gO,gP,gQ,gR,gS,gT,gU,gV,gW,gX,gY,gZ,hA,hB,hC,hD,hE,hF,hG,hH,hI,hJ,hK,hL,hM,hN,hO,hP,hQ,hR,hS,hT,hU] M Q
noncomputable def S19_2:List Item:=[.code (P19 [1,0,1]),.code (P19 [1,1])]
def A19_2 (x1:Option Addr) (x22:Bool) (M:Mem) (Q:Value→Mem→Prop):Prop:=∀ (g0 g2 g3 g4 g5 g6 g7 g8 g9 gA gB gC gD gE gF gG gH gI gJ gK gL gN gO gP gQ gR gS gT gU gV gW gX gY gZ hA hB hC hD hE hF hG hH hI hJ hK hL hM hN hO hP hQ hR hS hT hU:Value),Rg Try.prog Try.f19 (O19 [1,0,0]) false 17 S19_2 #[g0,.pointer x1,g2,g3,g4,g5,g6,g7,g8,g9,gA,gB,gC,gD,gE,gF,gG,gH,gI,gJ,gK,gL,.bool x22,gN,gO,gP,gQ,gR,gS,gT,gU,gV,gW,gX,gY,gZ,hA,hB,hC,hD,hE,hF,hG,hH,hI,hJ,hK,hL,hM,hN,hO,hP,hQ,hR,hS,hT,hU] M Q
noncomputable def S19_3:List Item:=[.code (P19 [1,0,1]),.code (P19 [1,1])]
def A19_3 (x1:Option Addr) (x27:Bool) (M:Mem) (Q:Value→Mem→Prop):Prop:=∀ (g0 g2 g3 g4 g5 g6 g7 g8 g9 gA gB gC gD gE gF gG gH gI gJ gK gL gM gN gO gP gQ gS gT gU gV gW gX gY gZ hA hB hC hD hE hF hG hH hI hJ hK hL hM hN hO hP hQ hR hS hT hU:Value),Rn Try.prog Try.f19 S19_3 #[g0,.pointer x1,g2,g3,g4,g5,g6,g7,g8,g9,gA,gB,gC,gD,gE,gF,gG,gH,gI,gJ,gK,gL,gM,gN,gO,gP,gQ,.bool x27,gS,gT,gU,gV,gW,gX,gY,gZ,hA,hB,hC,hD,hE,hF,hG,hH,hI,hJ,hK,hL,hM,hN,hO,hP,hQ,hR,hS,hT,hU] M Q
noncomputable def S19_4:List Item:=[.code (P19 [1,1,1,0,1,0,0]),.inLoop (P19 [1,1,1,0,1,0,0]),.inBlock 0,.code (P19 [1,1,1,1])]
def A19_4 (x1 Y3:Option Addr) (l3 y3:Nat) (x4:Int) (M:Mem) (Q:Value→Mem→Prop):Prop:=∀ (g0 g2 g5 g6 g7 g8 g9 gA gB gC gD gE gF gG gH gI gJ gK gL gM gN gO gP gQ gR gS gT gU gV gW gX gY gZ hA hB hC hD hE hF hG hH hI hJ hK hL hM hN hO hP hQ hR hS hT hU:Value),Rn Try.prog Try.f19 S19_4 #[g0,.pointer x1,g2,.slice Y3 l3 y3,.int .i64 x4,g5,g6,g7,g8,g9,gA,gB,gC,gD,gE,gF,gG,gH,gI,gJ,gK,gL,gM,gN,gO,gP,gQ,gR,gS,gT,gU,gV,gW,gX,gY,gZ,hA,hB,hC,hD,hE,hF,hG,hH,hI,hJ,hK,hL,hM,hN,hO,hP,hQ,hR,hS,hT,hU] M Q
noncomputable def S19_5:List Item:=[.code (P19 [1,1,1,0,1,0,0,1,0,0,1,0,0]),.inLoop (P19 [1,1,1,0,1,0,0,1,0,0,1,0,0]),.inBlock 2,.inBlock 1,.code (P19 [1,1,1,0,1,0,0,1,1]),.inLoop (P19 [1,1,1,0,1,0,0]),.inBlock 0,.code (P19 [1,1,1,1])]
def A19_5 (x1 Y3:Option Addr) (l3 y3:Nat) (x4 x5:Int) (M:Mem) (Q:Value→Mem→Prop):Prop:=∀ (g0 g2 g6 g7 g8 g9 gA gB gC gD gE gF gG gH gI gJ gK gL gM gN gO gP gQ gR gS gT gU gV gW gX gY gZ hA hB hC hD hE hF hG hH hI hJ hK hL hM hN hO hP hQ hR hS hT hU:Value),Rn Try.prog Try.f19 S19_5 #[g0,.pointer x1,g2,.slice Y3 l3 y3,.int .i64 x4,.int .i64 x5,g6,g7,g8,g9,gA,gB,gC,gD,gE,gF,gG,gH,gI,gJ,gK,gL,gM,gN,gO,gP,gQ,gR,gS,gT,gU,gV,gW,gX,gY,gZ,hA,hB,hC,hD,hE,hF,hG,hH,hI,hJ,hK,hL,hM,hN,hO,hP,hQ,hR,hS,hT,hU] M Q
theorem w19_0 {x0_0 x0_1 x0_2 x0_3:Int} {M:Mem} {Q:Value→Mem→Prop} (H :
 ∃x1',(M.new (.cells #[.int .i64 x0_0,.int .i64 x0_1,.int .i64 x0_2,.int .i64 x0_3] 35)).intAt .i64 (2*M.nb.size) (0+2)=some x1'∧
 Cn Try.prog 35 #[.int .i64 x1',.int .i64 1,.int .i64 256] (M.new (.cells #[.int .i64 x0_0,.int .i64 x0_1,.int .i64 x0_2,.int .i64 x0_3] 35)) fun v2' N2'=>
 ∃b3',asB v2'=some b3'∧
 (((!b3')=true→
 A19_1 (some ⟨2*M.nb.size,0,none⟩) true N2' Q)∧
 ((!b3')=false→
 ∃x4',N2'.intAt .i64 (2*M.nb.size) (0+3)=some x4'∧
 Cn Try.prog 35 #[.int .i64 x4',.int .i64 1,.int .i64 256] N2' fun v5' N5'=>
 ∃b6',asB v5'=some b6'∧
 A19_1 (some ⟨2*M.nb.size,0,none⟩) (!b6') N5' Q))):
 Cn Try.prog 19 #[.agg #[.int .i64 x0_0,.int .i64 x0_1,.int .i64 x0_2,.int .i64 x0_3]] M Q:=by
  refine Cn.of b19 d19 t19 ?_
  refine Rn.seq k19_0 (Rn.region k19_1 (fun call K=>r19_0) (Rch.leaf (Rn.seq k19_2 (Rn.seq k19_3 (Rn.regionC k19_5 (Rg.step (d:=11) (j:=11) (fun call K=>r19_1p0) rfl rfl (Rch.bind (x:=⟨2*M.nb.size,0,none⟩) rfl (Rch.ex H fun x1' H=>Rch.call H fun v2' N2' H=>Rch.ex H fun b3' H=>?_))))))))
  refine Rch.cB (fun h=>?_) (fun h=>?_)
  · replace H:=H.1 (h)
    refine Rch.rest ?_
    exact H ..
  · replace H:=H.2 (h)
    refine Rch.bind (x:=⟨2*M.nb.size,0,none⟩) rfl (Rch.ex H fun x4' H=>Rch.call H fun v5' N5' H=>Rch.ex H fun b6' H=>Rch.rest ?_)
    exact H ..
theorem w19_1 {x1:Option Addr} {x16:Bool} {M:Mem} {Q:Value→Mem→Prop} (H :
 ((x16=true→
 A19_2 x1 true M Q)∧
 (x16=false→
 ∃a7',x1=some a7'∧
 ∃x8',M.intAt .i64 a7'.block a7'.off=some x8'∧
 Cn Try.prog 35 #[.int .i64 x8',.int .i64 0,.int .i64 256] M fun v9' N9'=>
 ∃b10',asB v9'=some b10'∧
 A19_2 x1 (!b10') N9' Q))):
 A19_1 x1 x16 M Q:=by
  iterate 55 intro _
  refine Rg.step (d:=6) (j:=17) (fun call K=>r19_1p11) rfl rfl ?_
  refine Rch.cB (fun h=>?_) (fun h=>?_)
  · replace H:=H.1 (h)
    refine Rch.rest ?_
    exact H ..
  · replace H:=H.2 (h)
    refine Rch.ex H fun a7' H=>Rch.ex H fun x8' H=>Rch.call H fun v9' N9' H=>Rch.ex H fun b10' H=>Rch.rest ?_
    exact H ..
theorem w19_2 {x1:Option Addr} {x22:Bool} {M:Mem} {Q:Value→Mem→Prop} (H :
 ((x22=true→
 A19_3 x1 true M Q)∧
 (x22=false→
 ∃a11',x1=some a11'∧
 ∃x12',M.intAt .i64 a11'.block (a11'.off+1)=some x12'∧
 Cn Try.prog 35 #[.int .i64 x12',.int .i64 0,.int .i64 256] M fun v13' N13'=>
 ∃b14',asB v13'=some b14'∧
 A19_3 x1 (!b14') N13' Q))):
 A19_2 x1 x22 M Q:=by
  iterate 55 intro _
  refine Rg.step (d:=5) (j:=22) (fun call K=>r19_1p17) rfl rfl ?_
  refine Rch.cB (fun h=>?_) (fun h=>?_)
  · replace H:=H.1 (h)
    refine Rch.rest (Rg.done rfl ?_)
    exact H ..
  · replace H:=H.2 (h)
    refine Rch.ex H fun a11' H=>Rch.ex H fun x12' H=>Rch.call H fun v13' N13' H=>Rch.ex H fun b14' H=>Rch.rest (Rg.done rfl ?_)
    exact H ..
theorem w19_3 {x1:Option Addr} {x27:Bool} {M:Mem} {Q:Value→Mem→Prop} (H :
 ((x27=true→
 Q (.slice none 0 0) M)∧
 (x27=false→
 ∃a15',x1=some a15'∧
 ∃x16',M.intAt .i64 a15'.block (a15'.off+1)=some x16'∧
 A19_4 x1 none 0 0 x16' M Q))):
 A19_3 x1 x27 M Q:=by
  iterate 55 intro _
  refine Rn.cnd (v:=x27) ⟨c19_6,rfl,by kernel_rfl⟩ (fun h=>?_) (fun h=>?_)
  · replace H:=H.1 (h)
    refine Rn.seq k19_7 (Rn.region k19_8 (fun call K=>r19_2) (Rch.leaf ?_))
    exact Rn.ret k19_9 e19 H
  · replace H:=H.2 (h)
    refine Rn.skip k19_11 (Rn.seq k19_12 (Rn.region k19_13 (fun call K=>r19_3) (Rch.leaf (Rn.seq k19_14 (Rn.seq k19_15 (Rn.region k19_16 (fun call K=>r19_4) (Rch.ex H fun a15' H=>Rch.ex H fun x16' H=>Rch.leaf (Rn.block k19_17 (Rn.loop k19_18 ?_)))))))))
    exact H ..
theorem w19_4 {x1 Y3:Option Addr} {l3 y3:Nat} {x4:Int} {M:Mem} {Q:Value→Mem→Prop} (H :
 ∃a17',x1=some a17'∧
 ∃x18',M.intAt .i64 a17'.block (a17'.off+1)=some x18'∧
 ∃a19',x1=some a19'∧
 ∃x20',M.intAt .i64 a19'.block (a19'.off+3)=some x20'∧
 ((x4<(IntKind.i64.wrap (x18'+x20'))→
 ∃a21',x1=some a21'∧
 ∃x22',M.intAt .i64 a21'.block a21'.off=some x22'∧
 A19_5 x1 Y3 l3 y3 x4 x22' M Q)∧
 (¬(x4<(IntKind.i64.wrap (x18'+x20')))→
 Q (.slice Y3 l3 y3) M))):
 A19_4 x1 Y3 l3 y3 x4 M Q:=by
  iterate 54 intro _
  refine Rn.seq k19_19 (Rn.seq k19_20 (Rn.region k19_21 (fun call K=>r19_5) (Rch.ex H fun a17' H=>Rch.ex H fun x18' H=>Rch.ex H fun a19' H=>Rch.ex H fun x20' H=>Rch.leaf ?_)))
  refine Rn.cnd (v:=decide (x4<(IntKind.i64.wrap (x18'+x20')))) ⟨c19_22,rfl,by kernel_rfl⟩ (fun h=>?_) (fun h=>?_)
  · replace H:=H.1 (of_decide_eq_true h)
    refine Rn.skip k19_23 (Rn.seq k19_24 (Rn.block k19_25 (Rn.seq k19_26 (Rn.region k19_27 (fun call K=>r19_7) (Rch.ex H fun a21' H=>Rch.ex H fun x22' H=>Rch.leaf (Rn.block k19_28 (Rn.loop k19_29 ?_)))))))
    exact H ..
  · replace H:=H.2 (of_decide_eq_false h)
    refine Rn.exit k19_30 rfl (Rn.seq k19_31 (Rn.region k19_32 (fun call K=>r19_11) (Rch.leaf ?_)))
    exact Rn.ret k19_33 e19 H
theorem w19_5 {x1 Y3:Option Addr} {l3 y3:Nat} {x4 x5:Int} {M:Mem} {Q:Value→Mem→Prop} (H :
 ∃a23',x1=some a23'∧
 ∃x24',M.intAt .i64 a23'.block a23'.off=some x24'∧
 ∃a25',x1=some a25'∧
 ∃x26',M.intAt .i64 a25'.block (a25'.off+2)=some x26'∧
 ((x5<(IntKind.i64.wrap (x24'+x26'))→
 ∃r27',appendP Try.prog #[36,36] (.slice Y3 l3 y3) (.slice (some ⟨2*M.nb.size,0,none⟩) 1 1) (M.new (.cells #[.int .i64 x5,.int .i64 x4,.int .i64 64,.int .i64 64] 35))=some r27'∧
 ∃s28',asS r27'.1=some s28'∧
 A19_5 x1 s28'.1 s28'.2.1 s28'.2.2 x4 (IntKind.i64.wrap (x5+64)) r27'.2 Q)∧
 (¬(x5<(IntKind.i64.wrap (x24'+x26')))→
 A19_4 x1 Y3 l3 y3 (IntKind.i64.wrap (x4+64)) M Q))):
 A19_5 x1 Y3 l3 y3 x4 x5 M Q:=by
  iterate 53 intro _
  refine Rn.seq k19_34 (Rn.seq k19_35 (Rn.region k19_36 (fun call K=>r19_8) (Rch.ex H fun a23' H=>Rch.ex H fun x24' H=>Rch.ex H fun a25' H=>Rch.ex H fun x26' H=>Rch.leaf ?_)))
  refine Rn.cnd (v:=decide (x5<(IntKind.i64.wrap (x24'+x26')))) ⟨c19_37,rfl,by kernel_rfl⟩ (fun h=>?_) (fun h=>?_)
  · replace H:=H.1 (of_decide_eq_true h)
    refine Rn.skip k19_38 (Rn.seq k19_39 (Rn.block k19_40 (Rn.region k19_41 (fun call K=>r19_10) (Rch.ex H fun r27' H=>Rch.ex H fun s28' H=>Rch.leaf (Rn.blk (Rn.region k19_42 (fun call K=>r19_9) (Rch.leaf (Rn.lp ?_))))))))
    exact H ..
  · replace H:=H.2 (of_decide_eq_false h)
    refine Rn.exit k19_43 rfl (Rn.blk (Rn.region k19_44 (fun call K=>r19_6) (Rch.leaf (Rn.lp ?_))))
    exact H ..
noncomputable abbrev P20 (p:List Nat):Code:=subC (codeOf Try.f20) p
noncomputable abbrev O20 (p:List Nat):Array Oper:=opsOf (subC (codeOf Try.f20) p)
theorem b20:Try.prog.funcs[20]?=some Try.f20∧(Orc.tab Try.prog).lookup 20=none:=⟨by kernel_rfl,by kernel_rfl⟩
theorem d20:Try.f20.body=some (P20 []):=by kernel_rfl
theorem t20 {x0_0 x0_1 x0_2 x0_3:Int}:#[.agg #[.int .i64 x0_0,.int .i64 x0_1,.int .i64 x0_2,.int .i64 x0_3]] ++ Array.replicate (Try.f20.ntmps-(#[.agg #[.int .i64 x0_0,.int .i64 x0_1,.int .i64 x0_2,.int .i64 x0_3]]:Array Value).size) undef=#[.agg #[.int .i64 x0_0,.int .i64 x0_1,.int .i64 x0_2,.int .i64 x0_3],undef,undef,undef,undef,undef,undef,undef,undef,undef,undef,undef,undef,undef,undef,undef,undef,undef,undef,undef,undef,undef,undef,undef,undef,undef,undef,undef,undef,undef,undef,undef,undef,undef,undef,undef,undef,undef,undef,undef,undef,undef,undef,undef,undef,undef,undef,undef,undef,undef,undef,undef,undef,undef,undef,undef,undef,undef,undef,undef,undef,undef,undef,undef,undef,undef,undef,undef,undef]:=by kernel_rfl
theorem k20_0:P20 []=.seq (P20 [0]) (P20 [1]):=by kernel_rfl
theorem k20_1:P20 [0]=.region 0 (O20 [0]) false:=by kernel_rfl
theorem r20_0 {x0_0 x0_1 x0_2 x0_3:Int} {M:Mem} {call:CallM} {K:Array Value→Mem→R} :
 opsK Try.prog (fun _=>call) (O20 [0]) (O20 [0]).toList 0 #[.agg #[.int .i64 x0_0,.int .i64 x0_1,.int .i64 x0_2,.int .i64 x0_3],g1,g2,g3,g4,g5,g6,g7,g8,g9,gA,gB,gC,gD,gE,gF,gG,gH,gI,gJ,gK,gL,gM,gN,gO,gP,gQ,gR,gS,gT,gU,gV,gW,gX,gY,gZ,hA,hB,hC,hD,hE,hF,hG,hH,hI,hJ,hK,hL,hM,hN,hO,hP,hQ,hR,hS,hT,hU,hV,hW,hX,hY,hZ,h0,h1,h2,h3,h4,h5,h6] M K=K #[.agg #[.int .i64 x0_0,.int .i64 x0_1,.int .i64 x0_2,.int .i64 x0_3],.pointer (some ⟨2*M.nb.size,0,none⟩),.slice none 0 0,g3,g4,g5,g6,g7,g8,g9,gA,gB,gC,gD,gE,gF,gG,gH,gI,gJ,gK,gL,gM,gN,gO,gP,gQ,gR,gS,gT,gU,gV,gW,gX,gY,gZ,hA,hB,hC,hD,hE,hF,hG,hH,hI,hJ,hK,hL,hM,hN,hO,hP,hQ,hR,hS,hT,hU,hV,hW,hX,hY,hZ,h0,h1,h2,h3,h4,h5,h6] (M.new (.cells #[.int .i64 x0_0,.int .i64 x0_1,.int .i64 x0_2,.int .i64 x0_3] 35)):=by kernel_rfl
theorem k20_2:P20 [1]=.seq (P20 [1,0]) (P20 [1,1]):=by kernel_rfl
theorem k20_3:P20 [1,0]=.seq (P20 [1,0,0]) (P20 [1,0,1]):=by kernel_rfl
theorem k20_5:P20 [1,0,0]=.region 1 (O20 [1,0,0]) false∧(!false || drawOk (O20 [1,0,0]))=true:=⟨by kernel_rfl,by kernel_rfl⟩
theorem r20_1p0 {x1:Option Addr} {M:Mem} {call:CallM} {K:Array Value→Mem→R} :
 segK Try.prog false call (O20 [1,0,0]) 0 9 #[g0,.pointer x1,g2,g3,g4,g5,g6,g7,g8,g9,gA,gB,gC,gD,gE,gF,gG,gH,gI,gJ,gK,gL,gM,gN,gO,gP,gQ,gR,gS,gT,gU,gV,gW,gX,gY,gZ,hA,hB,hC,hD,hE,hF,hG,hH,hI,hJ,hK,hL,hM,hN,hO,hP,hQ,hR,hS,hT,hU,hV,hW,hX,hY,hZ,h0,h1,h2,h3,h4,h5,h6] M K=withK (fun w6 w7 w8 w9 w10 w11 w12 w13 w14 M=>K #[g0,.pointer x1,g2,g3,g4,g5,w6,w7,w8,w9,w10,w11,w12,w13,w14,gF,gG,gH,gI,gJ,gK,gL,gM,gN,gO,gP,gQ,gR,gS,gT,gU,gV,gW,gX,gY,gZ,hA,hB,hC,hD,hE,hF,hG,hH,hI,hJ,hK,hL,hM,hN,hO,hP,hQ,hR,hS,hT,hU,hV,hW,hX,hY,hZ,h0,h1,h2,h3,h4,h5,h6] M) fun k=>(x1).bind fun a_1=>(M.intAt .i64 a_1.block (a_1.off+2)).bind fun x_2=>cond (decide (x_2<1)) (k (.pointer (some ⟨a_1.block,a_1.off+2,none⟩)) (.int .i64 x_2) (.bool (decide (x_2<1))) (.bool true) undef undef undef (.bool true) (.bool true) M) ((x1).bind fun a_3=>(M.intAt .i64 a_3.block (a_3.off+2)).bind fun x_4=>k (.pointer (some ⟨a_1.block,a_1.off+2,none⟩)) (.int .i64 x_2) (.bool (decide (x_2<1))) (.bool false) (.pointer (some ⟨a_3.block,a_3.off+2,none⟩)) (.int .i64 x_4) (.bool (decide (x_4>256))) (.bool (decide (x_4>256))) (.bool (decide (x_4>256))) M):=by kernel_rfl
theorem r20_1p9 {x1:Option Addr} {x14:Bool} {M:Mem} {call:CallM} {K:Array Value→Mem→R} :
 segK Try.prog false call (O20 [1,0,0]) 9 5 #[g0,.pointer x1,g2,g3,g4,g5,g6,g7,g8,g9,gA,gB,gC,gD,.bool x14,gF,gG,gH,gI,gJ,gK,gL,gM,gN,gO,gP,gQ,gR,gS,gT,gU,gV,gW,gX,gY,gZ,hA,hB,hC,hD,hE,hF,hG,hH,hI,hJ,hK,hL,hM,hN,hO,hP,hQ,hR,hS,hT,hU,hV,hW,hX,hY,hZ,h0,h1,h2,h3,h4,h5,h6] M K=withK (fun w14 w15 w16 w17 w18 w19 M=>K #[g0,.pointer x1,g2,g3,g4,g5,g6,g7,g8,g9,gA,gB,gC,gD,w14,w15,w16,w17,w18,w19,gK,gL,gM,gN,gO,gP,gQ,gR,gS,gT,gU,gV,gW,gX,gY,gZ,hA,hB,hC,hD,hE,hF,hG,hH,hI,hJ,hK,hL,hM,hN,hO,hP,hQ,hR,hS,hT,hU,hV,hW,hX,hY,hZ,h0,h1,h2,h3,h4,h5,h6] M) fun k=>cond x14 (k (.bool true) undef undef undef (.bool true) (.bool true) M) ((x1).bind fun a_1=>(M.intAt .i64 a_1.block (a_1.off+3)).bind fun x_2=>k (.bool false) (.pointer (some ⟨a_1.block,a_1.off+3,none⟩)) (.int .i64 x_2) (.bool (decide (x_2<1))) (.bool (decide (x_2<1))) (.bool (decide (x_2<1))) M):=by kernel_rfl
theorem r20_1p14 {x1:Option Addr} {x19:Bool} {M:Mem} {call:CallM} {K:Array Value→Mem→R} :
 segK Try.prog false call (O20 [1,0,0]) 14 5 #[g0,.pointer x1,g2,g3,g4,g5,g6,g7,g8,g9,gA,gB,gC,gD,gE,gF,gG,gH,gI,.bool x19,gK,gL,gM,gN,gO,gP,gQ,gR,gS,gT,gU,gV,gW,gX,gY,gZ,hA,hB,hC,hD,hE,hF,hG,hH,hI,hJ,hK,hL,hM,hN,hO,hP,hQ,hR,hS,hT,hU,hV,hW,hX,hY,hZ,h0,h1,h2,h3,h4,h5,h6] M K=withK (fun w19 w20 w21 w22 w23 w24 M=>K #[g0,.pointer x1,g2,g3,g4,g5,g6,g7,g8,g9,gA,gB,gC,gD,gE,gF,gG,gH,gI,w19,w20,w21,w22,w23,w24,gP,gQ,gR,gS,gT,gU,gV,gW,gX,gY,gZ,hA,hB,hC,hD,hE,hF,hG,hH,hI,hJ,hK,hL,hM,hN,hO,hP,hQ,hR,hS,hT,hU,hV,hW,hX,hY,hZ,h0,h1,h2,h3,h4,h5,h6] M) fun k=>cond x19 (k (.bool true) undef undef undef (.bool true) (.bool true) M) ((x1).bind fun a_1=>(M.intAt .i64 a_1.block (a_1.off+3)).bind fun x_2=>k (.bool false) (.pointer (some ⟨a_1.block,a_1.off+3,none⟩)) (.int .i64 x_2) (.bool (decide (x_2>256))) (.bool (decide (x_2>256))) (.bool (decide (x_2>256))) M):=by kernel_rfl
theorem r20_1p19 {x1:Option Addr} {x24:Bool} {M:Mem} {call:CallM} {K:Array Value→Mem→R} :
 segK Try.prog false call (O20 [1,0,0]) 19 5 #[g0,.pointer x1,g2,g3,g4,g5,g6,g7,g8,g9,gA,gB,gC,gD,gE,gF,gG,gH,gI,gJ,gK,gL,gM,gN,.bool x24,gP,gQ,gR,gS,gT,gU,gV,gW,gX,gY,gZ,hA,hB,hC,hD,hE,hF,hG,hH,hI,hJ,hK,hL,hM,hN,hO,hP,hQ,hR,hS,hT,hU,hV,hW,hX,hY,hZ,h0,h1,h2,h3,h4,h5,h6] M K=withK (fun w24 w25 w26 w27 w28 w29 M=>K #[g0,.pointer x1,g2,g3,g4,g5,g6,g7,g8,g9,gA,gB,gC,gD,gE,gF,gG,gH,gI,gJ,gK,gL,gM,gN,w24,w25,w26,w27,w28,w29,gU,gV,gW,gX,gY,gZ,hA,hB,hC,hD,hE,hF,hG,hH,hI,hJ,hK,hL,hM,hN,hO,hP,hQ,hR,hS,hT,hU,hV,hW,hX,hY,hZ,h0,h1,h2,h3,h4,h5,h6] M) fun k=>cond x24 (k (.bool true) undef undef undef (.bool true) (.bool true) M) ((x1).bind fun a_1=>(M.intAt .i64 a_1.block a_1.off).bind fun x_2=>k (.bool false) (.pointer (some ⟨a_1.block,a_1.off,none⟩)) (.int .i64 x_2) (.bool (decide (x_2<0))) (.bool (decide (x_2<0))) (.bool (decide (x_2<0))) M):=by kernel_rfl
theorem r20_1p24 {x1:Option Addr} {x29:Bool} {M:Mem} {call:CallM} {K:Array Value→Mem→R} :
 segK Try.prog false call (O20 [1,0,0]) 24 5 #[g0,.pointer x1,g2,g3,g4,g5,g6,g7,g8,g9,gA,gB,gC,gD,gE,gF,gG,gH,gI,gJ,gK,gL,gM,gN,gO,gP,gQ,gR,gS,.bool x29,gU,gV,gW,gX,gY,gZ,hA,hB,hC,hD,hE,hF,hG,hH,hI,hJ,hK,hL,hM,hN,hO,hP,hQ,hR,hS,hT,hU,hV,hW,hX,hY,hZ,h0,h1,h2,h3,h4,h5,h6] M K=withK (fun w29 w30 w31 w32 w33 w34 M=>K #[g0,.pointer x1,g2,g3,g4,g5,g6,g7,g8,g9,gA,gB,gC,gD,gE,gF,gG,gH,gI,gJ,gK,gL,gM,gN,gO,gP,gQ,gR,gS,w29,w30,w31,w32,w33,w34,gZ,hA,hB,hC,hD,hE,hF,hG,hH,hI,hJ,hK,hL,hM,hN,hO,hP,hQ,hR,hS,hT,hU,hV,hW,hX,hY,hZ,h0,h1,h2,h3,h4,h5,h6] M) fun k=>cond x29 (k (.bool true) undef undef undef (.bool true) (.bool true) M) ((x1).bind fun a_1=>(M.intAt .i64 a_1.block a_1.off).bind fun x_2=>k (.bool false) (.pointer (some ⟨a_1.block,a_1.off,none⟩)) (.int .i64 x_2) (.bool (decide (x_2>256))) (.bool (decide (x_2>256))) (.bool (decide (x_2>256))) M):=by kernel_rfl
theorem r20_1p29 {x1:Option Addr} {x34:Bool} {M:Mem} {call:CallM} {K:Array Value→Mem→R} :
 segK Try.prog false call (O20 [1,0,0]) 29 5 #[g0,.pointer x1,g2,g3,g4,g5,g6,g7,g8,g9,gA,gB,gC,gD,gE,gF,gG,gH,gI,gJ,gK,gL,gM,gN,gO,gP,gQ,gR,gS,gT,gU,gV,gW,gX,.bool x34,gZ,hA,hB,hC,hD,hE,hF,hG,hH,hI,hJ,hK,hL,hM,hN,hO,hP,hQ,hR,hS,hT,hU,hV,hW,hX,hY,hZ,h0,h1,h2,h3,h4,h5,h6] M K=withK (fun w34 w35 w36 w37 w38 w39 M=>K #[g0,.pointer x1,g2,g3,g4,g5,g6,g7,g8,g9,gA,gB,gC,gD,gE,gF,gG,gH,gI,gJ,gK,gL,gM,gN,gO,gP,gQ,gR,gS,gT,gU,gV,gW,gX,w34,w35,w36,w37,w38,w39,hE,hF,hG,hH,hI,hJ,hK,hL,hM,hN,hO,hP,hQ,hR,hS,hT,hU,hV,hW,hX,hY,hZ,h0,h1,h2,h3,h4,h5,h6] M) fun k=>cond x34 (k (.bool true) undef undef undef (.bool true) (.bool true) M) ((x1).bind fun a_1=>(M.intAt .i64 a_1.block (a_1.off+1)).bind fun x_2=>k (.bool false) (.pointer (some ⟨a_1.block,a_1.off+1,none⟩)) (.int .i64 x_2) (.bool (decide (x_2<0))) (.bool (decide (x_2<0))) (.bool (decide (x_2<0))) M):=by kernel_rfl
theorem r20_1p34 {x1:Option Addr} {x39:Bool} {M:Mem} {call:CallM} {K:Array Value→Mem→R} :
 segK Try.prog false call (O20 [1,0,0]) 34 4 #[g0,.pointer x1,g2,g3,g4,g5,g6,g7,g8,g9,gA,gB,gC,gD,gE,gF,gG,gH,gI,gJ,gK,gL,gM,gN,gO,gP,gQ,gR,gS,gT,gU,gV,gW,gX,gY,gZ,hA,hB,hC,.bool x39,hE,hF,hG,hH,hI,hJ,hK,hL,hM,hN,hO,hP,hQ,hR,hS,hT,hU,hV,hW,hX,hY,hZ,h0,h1,h2,h3,h4,h5,h6] M K=withK (fun w39 w40 w41 w42 w43 M=>K #[g0,.pointer x1,g2,g3,g4,g5,g6,g7,g8,g9,gA,gB,gC,gD,gE,gF,gG,gH,gI,gJ,gK,gL,gM,gN,gO,gP,gQ,gR,gS,gT,gU,gV,gW,gX,gY,gZ,hA,hB,hC,w39,w40,w41,w42,w43,hI,hJ,hK,hL,hM,hN,hO,hP,hQ,hR,hS,hT,hU,hV,hW,hX,hY,hZ,h0,h1,h2,h3,h4,h5,h6] M) fun k=>cond x39 (k (.bool true) undef undef undef (.bool true) M) ((x1).bind fun a_1=>(M.intAt .i64 a_1.block (a_1.off+1)).bind fun x_2=>k (.bool false) (.pointer (some ⟨a_1.block,a_1.off+1,none⟩)) (.int .i64 x_2) (.bool (decide (x_2>256))) (.bool (decide (x_2>256))) M):=by kernel_rfl
theorem c20_6:P20 [1,0,1]=.cond (.tmp 43) (P20 [1,0,1,0]) (P20 [1,0,1,1]):=by kernel_rfl
theorem k20_7:P20 [1,0,1,0]=.seq (P20 [1,0,1,0,0]) (P20 [1,0,1,0,1]):=by kernel_rfl
theorem k20_8:P20 [1,0,1,0,0]=.region 2 (O20 [1,0,1,0,0]) false:=by kernel_rfl
theorem r20_2 {M:Mem} {call:CallM} {K:Array Value→Mem→R} :
 opsK Try.prog (fun _=>call) (O20 [1,0,1,0,0]) (O20 [1,0,1,0,0]).toList 0 #[g0,g1,g2,g3,g4,g5,g6,g7,g8,g9,gA,gB,gC,gD,gE,gF,gG,gH,gI,gJ,gK,gL,gM,gN,gO,gP,gQ,gR,gS,gT,gU,gV,gW,gX,gY,gZ,hA,hB,hC,hD,hE,hF,hG,hH,hI,hJ,hK,hL,hM,hN,hO,hP,hQ,hR,hS,hT,hU,hV,hW,hX,hY,hZ,h0,h1,h2,h3,h4,h5,h6] M K=K #[g0,g1,.slice none 0 0,g3,g4,g5,g6,g7,g8,g9,gA,gB,gC,gD,gE,gF,gG,gH,gI,gJ,gK,gL,gM,gN,gO,gP,gQ,gR,gS,gT,gU,gV,gW,gX,gY,gZ,hA,hB,hC,hD,hE,hF,hG,hH,hI,hJ,hK,hL,hM,hN,hO,hP,hQ,hR,hS,hT,hU,hV,hW,hX,hY,hZ,h0,h1,h2,h3,h4,h5,h6] M:=by kernel_rfl
theorem k20_9:P20 [1,0,1,0,1]=.ret:=by kernel_rfl
theorem e20 {M:Mem}:finish Try.prog Try.f20 #[g0,g1,g2,g3,g4,g5,g6,g7,g8,g9,gA,gB,gC,gD,gE,gF,gG,gH,gI,gJ,gK,gL,gM,gN,gO,gP,gQ,gR,gS,gT,gU,gV,gW,gX,gY,gZ,hA,hB,hC,hD,hE,hF,hG,hH,hI,hJ,hK,hL,hM,hN,hO,hP,hQ,hR,hS,hT,hU,hV,hW,hX,hY,hZ,h0,h1,h2,h3,h4,h5,h6] M=some (g2,M):=by kernel_rfl
theorem k20_11:P20 [1,0,1,1]=.skip:=by kernel_rfl
theorem k20_12:P20 [1,1]=.seq (P20 [1,1,0]) (P20 [1,1,1]):=by kernel_rfl
theorem k20_13:P20 [1,1,0]=.region 3 (O20 [1,1,0]) false:=by kernel_rfl
theorem r20_3 {M:Mem} {call:CallM} {K:Array Value→Mem→R} :
 opsK Try.prog (fun _=>call) (O20 [1,1,0]) (O20 [1,1,0]).toList 0 #[g0,g1,g2,g3,g4,g5,g6,g7,g8,g9,gA,gB,gC,gD,gE,gF,gG,gH,gI,gJ,gK,gL,gM,gN,gO,gP,gQ,gR,gS,gT,gU,gV,gW,gX,gY,gZ,hA,hB,hC,hD,hE,hF,hG,hH,hI,hJ,hK,hL,hM,hN,hO,hP,hQ,hR,hS,hT,hU,hV,hW,hX,hY,hZ,h0,h1,h2,h3,h4,h5,h6] M K=K #[g0,g1,g2,.slice none 0 0,g4,g5,g6,g7,g8,g9,gA,gB,gC,gD,gE,gF,gG,gH,gI,gJ,gK,gL,gM,gN,gO,gP,gQ,gR,gS,gT,gU,gV,gW,gX,gY,gZ,hA,hB,hC,hD,hE,hF,hG,hH,hI,hJ,hK,hL,hM,hN,hO,hP,hQ,hR,hS,hT,hU,hV,hW,hX,hY,hZ,h0,h1,h2,h3,h4,h5,h6] M:=by kernel_rfl
theorem k20_14:P20 [1,1,1]=.seq (P20 [1,1,1,0]) (P20 [1,1,1,1]):=by kernel_rfl
theorem k20_15:P20 [1,1,1,0]=.seq (P20 [1,1,1,0,0]) (P20 [1,1,1,0,1]):=by kernel_rfl
theorem k20_16:P20 [1,1,1,0,0]=.region 4 (O20 [1,1,1,0,0]) false:=by kernel_rfl
theorem r20_4 {M:Mem} {call:CallM} {K:Array Value→Mem→R} :
 opsK Try.prog (fun _=>call) (O20 [1,1,1,0,0]) (O20 [1,1,1,0,0]).toList 0 #[g0,g1,g2,g3,g4,g5,g6,g7,g8,g9,gA,gB,gC,gD,gE,gF,gG,gH,gI,gJ,gK,gL,gM,gN,gO,gP,gQ,gR,gS,gT,gU,gV,gW,gX,gY,gZ,hA,hB,hC,hD,hE,hF,hG,hH,hI,hJ,hK,hL,hM,hN,hO,hP,hQ,hR,hS,hT,hU,hV,hW,hX,hY,hZ,h0,h1,h2,h3,h4,h5,h6] M K=K #[g0,g1,g2,g3,.int .i64 0,g5,g6,g7,g8,g9,gA,gB,gC,gD,gE,gF,gG,gH,gI,gJ,gK,gL,gM,gN,gO,gP,gQ,gR,gS,gT,gU,gV,gW,gX,gY,gZ,hA,hB,hC,hD,hE,hF,hG,hH,hI,hJ,hK,hL,hM,hN,hO,hP,hQ,hR,hS,hT,hU,hV,hW,hX,hY,hZ,h0,h1,h2,h3,h4,h5,h6] M:=by kernel_rfl
theorem k20_17:P20 [1,1,1,0,1]=.block 0 (P20 [1,1,1,0,1,0]):=by kernel_rfl
theorem k20_18:P20 [1,1,1,0,1,0]=.loop (P20 [1,1,1,0,1,0,0]):=by kernel_rfl
theorem k20_19:P20 [1,1,1,0,1,0,0]=.seq (P20 [1,1,1,0,1,0,0,0]) (P20 [1,1,1,0,1,0,0,1]):=by kernel_rfl
theorem k20_20:P20 [1,1,1,0,1,0,0,0]=.seq (P20 [1,1,1,0,1,0,0,0,0]) (P20 [1,1,1,0,1,0,0,0,1]):=by kernel_rfl
theorem k20_21:P20 [1,1,1,0,1,0,0,0,0]=.region 5 (O20 [1,1,1,0,1,0,0,0,0]) false:=by kernel_rfl
theorem r20_5 {x1:Option Addr} {x4:Int} {M:Mem} {call:CallM} {K:Array Value→Mem→R} :
 opsK Try.prog (fun _=>call) (O20 [1,1,1,0,1,0,0,0,0]) (O20 [1,1,1,0,1,0,0,0,0]).toList 0 #[g0,.pointer x1,g2,g3,.int .i64 x4,g5,g6,g7,g8,g9,gA,gB,gC,gD,gE,gF,gG,gH,gI,gJ,gK,gL,gM,gN,gO,gP,gQ,gR,gS,gT,gU,gV,gW,gX,gY,gZ,hA,hB,hC,hD,hE,hF,hG,hH,hI,hJ,hK,hL,hM,hN,hO,hP,hQ,hR,hS,hT,hU,hV,hW,hX,hY,hZ,h0,h1,h2,h3,h4,h5,h6] M K=(x1).bind fun a_1=>(M.intAt .i64 a_1.block (a_1.off+3)).bind fun x_2=>K #[g0,.pointer x1,g2,g3,.int .i64 x4,g5,g6,g7,g8,g9,gA,gB,gC,gD,gE,gF,gG,gH,gI,gJ,gK,gL,gM,gN,gO,gP,gQ,gR,gS,gT,gU,gV,gW,gX,gY,gZ,hA,hB,hC,hD,hE,hF,hG,hH,.int .i64 x4,.pointer (some ⟨a_1.block,a_1.off+3,none⟩),.int .i64 x_2,.bool (decide (x4<x_2)),hM,hN,hO,hP,hQ,hR,hS,hT,hU,hV,hW,hX,hY,hZ,h0,h1,h2,h3,h4,h5,h6] M:=by kernel_rfl
theorem c20_22:P20 [1,1,1,0,1,0,0,0,1]=.cond (.tmp 47) (P20 [1,1,1,0,1,0,0,0,1,0]) (P20 [1,1,1,0,1,0,0,0,1,1]):=by kernel_rfl
theorem k20_23:P20 [1,1,1,0,1,0,0,0,1,0]=.skip:=by kernel_rfl
theorem k20_24:P20 [1,1,1,0,1,0,0,1]=.seq (P20 [1,1,1,0,1,0,0,1,0]) (P20 [1,1,1,0,1,0,0,1,1]):=by kernel_rfl
theorem k20_25:P20 [1,1,1,0,1,0,0,1,0]=.block 1 (P20 [1,1,1,0,1,0,0,1,0,0]):=by kernel_rfl
theorem k20_26:P20 [1,1,1,0,1,0,0,1,0,0]=.seq (P20 [1,1,1,0,1,0,0,1,0,0,0]) (P20 [1,1,1,0,1,0,0,1,0,0,1]):=by kernel_rfl
theorem k20_27:P20 [1,1,1,0,1,0,0,1,0,0,0]=.region 7 (O20 [1,1,1,0,1,0,0,1,0,0,0]) false:=by kernel_rfl
theorem r20_7 {M:Mem} {call:CallM} {K:Array Value→Mem→R} :
 opsK Try.prog (fun _=>call) (O20 [1,1,1,0,1,0,0,1,0,0,0]) (O20 [1,1,1,0,1,0,0,1,0,0,0]).toList 0 #[g0,g1,g2,g3,g4,g5,g6,g7,g8,g9,gA,gB,gC,gD,gE,gF,gG,gH,gI,gJ,gK,gL,gM,gN,gO,gP,gQ,gR,gS,gT,gU,gV,gW,gX,gY,gZ,hA,hB,hC,hD,hE,hF,hG,hH,hI,hJ,hK,hL,hM,hN,hO,hP,hQ,hR,hS,hT,hU,hV,hW,hX,hY,hZ,h0,h1,h2,h3,h4,h5,h6] M K=K #[g0,g1,g2,g3,g4,.int .i64 0,g6,g7,g8,g9,gA,gB,gC,gD,gE,gF,gG,gH,gI,gJ,gK,gL,gM,gN,gO,gP,gQ,gR,gS,gT,gU,gV,gW,gX,gY,gZ,hA,hB,hC,hD,hE,hF,hG,hH,hI,hJ,hK,hL,hM,hN,hO,hP,hQ,hR,hS,hT,hU,hV,hW,hX,hY,hZ,h0,h1,h2,h3,h4,h5,h6] M:=by kernel_rfl
theorem k20_28:P20 [1,1,1,0,1,0,0,1,0,0,1]=.block 2 (P20 [1,1,1,0,1,0,0,1,0,0,1,0]):=by kernel_rfl
theorem k20_29:P20 [1,1,1,0,1,0,0,1,0,0,1,0]=.loop (P20 [1,1,1,0,1,0,0,1,0,0,1,0,0]):=by kernel_rfl
theorem k20_30:P20 [1,1,1,0,1,0,0,0,1,1]=.exit 0:=by kernel_rfl
theorem k20_31:P20 [1,1,1,1]=.seq (P20 [1,1,1,1,0]) (P20 [1,1,1,1,1]):=by kernel_rfl
theorem k20_32:P20 [1,1,1,1,0]=.region 11 (O20 [1,1,1,1,0]) false:=by kernel_rfl
theorem r20_11 {Y3:Option Addr} {l3 y3:Nat} {M:Mem} {call:CallM} {K:Array Value→Mem→R} :
 opsK Try.prog (fun _=>call) (O20 [1,1,1,1,0]) (O20 [1,1,1,1,0]).toList 0 #[g0,g1,g2,.slice Y3 l3 y3,g4,g5,g6,g7,g8,g9,gA,gB,gC,gD,gE,gF,gG,gH,gI,gJ,gK,gL,gM,gN,gO,gP,gQ,gR,gS,gT,gU,gV,gW,gX,gY,gZ,hA,hB,hC,hD,hE,hF,hG,hH,hI,hJ,hK,hL,hM,hN,hO,hP,hQ,hR,hS,hT,hU,hV,hW,hX,hY,hZ,h0,h1,h2,h3,h4,h5,h6] M K=K #[g0,g1,.slice Y3 l3 y3,.slice Y3 l3 y3,g4,g5,g6,g7,g8,g9,gA,gB,gC,gD,gE,gF,gG,gH,gI,gJ,gK,gL,gM,gN,gO,gP,gQ,gR,gS,gT,gU,gV,gW,gX,gY,gZ,hA,hB,hC,hD,hE,hF,hG,hH,hI,hJ,hK,hL,hM,hN,hO,hP,hQ,hR,hS,hT,hU,hV,hW,hX,hY,hZ,h0,h1,h2,h3,h4,h5,.slice Y3 l3 y3] M:=by kernel_rfl
theorem k20_33:P20 [1,1,1,1,1]=.ret:=by kernel_rfl
theorem k20_34:P20 [1,1,1,0,1,0,0,1,0,0,1,0,0]=.seq (P20 [1,1,1,0,1,0,0,1,0,0,1,0,0,0]) (P20 [1,1,1,0,1,0,0,1,0,0,1,0,0,1]):=by kernel_rfl
theorem k20_35:P20 [1,1,1,0,1,0,0,1,0,0,1,0,0,0]=.seq (P20 [1,1,1,0,1,0,0,1,0,0,1,0,0,0,0]) (P20 [1,1,1,0,1,0,0,1,0,0,1,0,0,0,1]):=by kernel_rfl
theorem k20_36:P20 [1,1,1,0,1,0,0,1,0,0,1,0,0,0,0]=.region 8 (O20 [1,1,1,0,1,0,0,1,0,0,1,0,0,0,0]) false:=by kernel_rfl
theorem r20_8 {x1:Option Addr} {x5:Int} {M:Mem} {call:CallM} {K:Array Value→Mem→R} :
 opsK Try.prog (fun _=>call) (O20 [1,1,1,0,1,0,0,1,0,0,1,0,0,0,0]) (O20 [1,1,1,0,1,0,0,1,0,0,1,0,0,0,0]).toList 0 #[g0,.pointer x1,g2,g3,g4,.int .i64 x5,g6,g7,g8,g9,gA,gB,gC,gD,gE,gF,gG,gH,gI,gJ,gK,gL,gM,gN,gO,gP,gQ,gR,gS,gT,gU,gV,gW,gX,gY,gZ,hA,hB,hC,hD,hE,hF,hG,hH,hI,hJ,hK,hL,hM,hN,hO,hP,hQ,hR,hS,hT,hU,hV,hW,hX,hY,hZ,h0,h1,h2,h3,h4,h5,h6] M K=(x1).bind fun a_1=>(M.intAt .i64 a_1.block (a_1.off+2)).bind fun x_2=>K #[g0,.pointer x1,g2,g3,g4,.int .i64 x5,g6,g7,g8,g9,gA,gB,gC,gD,gE,gF,gG,gH,gI,gJ,gK,gL,gM,gN,gO,gP,gQ,gR,gS,gT,gU,gV,gW,gX,gY,gZ,hA,hB,hC,hD,hE,hF,hG,hH,hI,hJ,hK,hL,hM,hN,.int .i64 x5,.pointer (some ⟨a_1.block,a_1.off+2,none⟩),.int .i64 x_2,.bool (decide (x5<x_2)),hS,hT,hU,hV,hW,hX,hY,hZ,h0,h1,h2,h3,h4,h5,h6] M:=by kernel_rfl
theorem c20_37:P20 [1,1,1,0,1,0,0,1,0,0,1,0,0,0,1]=.cond (.tmp 53) (P20 [1,1,1,0,1,0,0,1,0,0,1,0,0,0,1,0]) (P20 [1,1,1,0,1,0,0,1,0,0,1,0,0,0,1,1]):=by kernel_rfl
theorem k20_38:P20 [1,1,1,0,1,0,0,1,0,0,1,0,0,0,1,0]=.skip:=by kernel_rfl
theorem k20_39:P20 [1,1,1,0,1,0,0,1,0,0,1,0,0,1]=.seq (P20 [1,1,1,0,1,0,0,1,0,0,1,0,0,1,0]) (P20 [1,1,1,0,1,0,0,1,0,0,1,0,0,1,1]):=by kernel_rfl
theorem k20_40:P20 [1,1,1,0,1,0,0,1,0,0,1,0,0,1,0]=.block 3 (P20 [1,1,1,0,1,0,0,1,0,0,1,0,0,1,0,0]):=by kernel_rfl
theorem k20_41:P20 [1,1,1,0,1,0,0,1,0,0,1,0,0,1,0,0]=.region 10 (O20 [1,1,1,0,1,0,0,1,0,0,1,0,0,1,0,0]) false:=by kernel_rfl
theorem r20_10 {x1 Y3:Option Addr} {l3 y3:Nat} {x4 x5:Int} {M:Mem} {call:CallM} {K:Array Value→Mem→R} :
 opsK Try.prog (fun _=>call) (O20 [1,1,1,0,1,0,0,1,0,0,1,0,0,1,0,0]) (O20 [1,1,1,0,1,0,0,1,0,0,1,0,0,1,0,0]).toList 0 #[g0,.pointer x1,g2,.slice Y3 l3 y3,.int .i64 x4,.int .i64 x5,g6,g7,g8,g9,gA,gB,gC,gD,gE,gF,gG,gH,gI,gJ,gK,gL,gM,gN,gO,gP,gQ,gR,gS,gT,gU,gV,gW,gX,gY,gZ,hA,hB,hC,hD,hE,hF,hG,hH,hI,hJ,hK,hL,hM,hN,hO,hP,hQ,hR,hS,hT,hU,hV,hW,hX,hY,hZ,h0,h1,h2,h3,h4,h5,h6] M K=(x1).bind fun a_1=>(M.intAt .i64 a_1.block a_1.off).bind fun x_2=>(x1).bind fun a_3=>(M.intAt .i64 a_3.block (a_3.off+1)).bind fun x_4=>(appendP Try.prog #[36,36] (.slice Y3 l3 y3) (.slice (some ⟨2*M.nb.size,0,none⟩) 1 1) (M.new (.cells #[.int .i64 (IntKind.i64.wrap (x_2+x5)),.int .i64 (IntKind.i64.wrap (x_4+x4)),.int .i64 64,.int .i64 64] 35))).bind fun r_5=>(asS r_5.1).bind fun s_6=>K #[g0,.pointer x1,g2,.slice s_6.1 (s_6.2.1) (s_6.2.2),.int .i64 x4,.int .i64 x5,g6,g7,g8,g9,gA,gB,gC,gD,gE,gF,gG,gH,gI,gJ,gK,gL,gM,gN,gO,gP,gQ,gR,gS,gT,gU,gV,gW,gX,gY,gZ,hA,hB,hC,hD,hE,hF,hG,hH,hI,hJ,hK,hL,hM,hN,hO,hP,hQ,hR,hS,hT,.slice Y3 l3 y3,.pointer (some ⟨a_1.block,a_1.off,none⟩),.int .i64 x_2,.int .i64 x5,.int .i64 (IntKind.i64.wrap (x_2+x5)),.pointer (some ⟨a_3.block,a_3.off+1,none⟩),.int .i64 x_4,.int .i64 x4,.int .i64 (IntKind.i64.wrap (x_4+x4)),.agg #[.int .i64 (IntKind.i64.wrap (x_2+x5)),.int .i64 (IntKind.i64.wrap (x_4+x4)),.int .i64 64,.int .i64 64],.slice (some ⟨2*M.nb.size,0,none⟩) 1 1,.slice s_6.1 (s_6.2.1) (s_6.2.2),h6] r_5.2:=by kernel_rfl
theorem k20_42:P20 [1,1,1,0,1,0,0,1,0,0,1,0,0,1,1]=.region 9 (O20 [1,1,1,0,1,0,0,1,0,0,1,0,0,1,1]) false:=by kernel_rfl
theorem r20_9 {x5:Int} {M:Mem} {call:CallM} {K:Array Value→Mem→R} :
 opsK Try.prog (fun _=>call) (O20 [1,1,1,0,1,0,0,1,0,0,1,0,0,1,1]) (O20 [1,1,1,0,1,0,0,1,0,0,1,0,0,1,1]).toList 0 #[g0,g1,g2,g3,g4,.int .i64 x5,g6,g7,g8,g9,gA,gB,gC,gD,gE,gF,gG,gH,gI,gJ,gK,gL,gM,gN,gO,gP,gQ,gR,gS,gT,gU,gV,gW,gX,gY,gZ,hA,hB,hC,hD,hE,hF,hG,hH,hI,hJ,hK,hL,hM,hN,hO,hP,hQ,hR,hS,hT,hU,hV,hW,hX,hY,hZ,h0,h1,h2,h3,h4,h5,h6] M K=K #[g0,g1,g2,g3,g4,.int .i64 (IntKind.i64.wrap (x5+64)),g6,g7,g8,g9,gA,gB,gC,gD,gE,gF,gG,gH,gI,gJ,gK,gL,gM,gN,gO,gP,gQ,gR,gS,gT,gU,gV,gW,gX,gY,gZ,hA,hB,hC,hD,hE,hF,hG,hH,hI,hJ,hK,hL,hM,hN,hO,hP,hQ,hR,.int .i64 x5,.int .i64 (IntKind.i64.wrap (x5+64)),hU,hV,hW,hX,hY,hZ,h0,h1,h2,h3,h4,h5,h6] M:=by kernel_rfl
theorem k20_43:P20 [1,1,1,0,1,0,0,1,0,0,1,0,0,0,1,1]=.exit 2:=by kernel_rfl
theorem k20_44:P20 [1,1,1,0,1,0,0,1,1]=.region 6 (O20 [1,1,1,0,1,0,0,1,1]) false:=by kernel_rfl
theorem r20_6 {x4:Int} {M:Mem} {call:CallM} {K:Array Value→Mem→R} :
 opsK Try.prog (fun _=>call) (O20 [1,1,1,0,1,0,0,1,1]) (O20 [1,1,1,0,1,0,0,1,1]).toList 0 #[g0,g1,g2,g3,.int .i64 x4,g5,g6,g7,g8,g9,gA,gB,gC,gD,gE,gF,gG,gH,gI,gJ,gK,gL,gM,gN,gO,gP,gQ,gR,gS,gT,gU,gV,gW,gX,gY,gZ,hA,hB,hC,hD,hE,hF,hG,hH,hI,hJ,hK,hL,hM,hN,hO,hP,hQ,hR,hS,hT,hU,hV,hW,hX,hY,hZ,h0,h1,h2,h3,h4,h5,h6] M K=K #[g0,g1,g2,g3,.int .i64 (IntKind.i64.wrap (x4+64)),g5,g6,g7,g8,g9,gA,gB,gC,gD,gE,gF,gG,gH,gI,gJ,gK,gL,gM,gN,gO,gP,gQ,gR,gS,gT,gU,gV,gW,gX,gY,gZ,hA,hB,hC,hD,hE,hF,hG,hH,hI,hJ,hK,hL,.int .i64 x4,.int .i64 (IntKind.i64.wrap (x4+64)),hO,hP,hQ,hR,hS,hT,hU,hV,hW,hX,hY,hZ,h0,h1,h2,h3,h4,h5,h6] M:=by kernel_rfl
noncomputable def S20_1:List Item:=[.code (P20 [1,0,1]),.code (P20 [1,1])]
def A20_1 (x1:Option Addr) (x14:Bool) (M:Mem) (Q:Value→Mem→Prop):Prop:=∀ (g0 g2 g3 g4 g5 g6 g7 g8 g9 gA gB gC gD gF gG gH gI gJ gK gL gM gN gO gP gQ gR gS gT gU gV gW gX gY gZ hA hB hC hD hE hF hG hH hI hJ hK hL hM hN hO hP hQ hR hS hT hU hV hW hX hY hZ h0 h1 h2 h3 h4 h5 h6:Value),Rg Try.prog Try.f20 (O20 [1,0,0]) false 9 S20_1 #[g0,.pointer x1,g2,g3,g4,g5,g6,g7,g8,g9,gA,gB,gC,gD,.bool x14,gF,gG,gH,gI,gJ,gK,gL,gM,gN,gO,gP,gQ,gR,gS,gT,gU,gV,gW,gX,gY,gZ,hA,hB,hC,hD,hE,hF,hG,hH,hI,hJ,hK,hL,hM,hN,hO,hP,hQ,hR,hS,hT,hU,hV,hW,hX,hY,hZ,h0,h1,h2,h3,h4,h5,h6] M Q
noncomputable def S20_2:List Item:=[.code (P20 [1,0,1]),.code (P20 [1,1])]
def A20_2 (x1:Option Addr) (x19:Bool) (M:Mem) (Q:Value→Mem→Prop):Prop:=∀ (g0 g2 g3 g4 g5 g6 g7 g8 g9 gA gB gC gD gE gF gG gH gI gK gL gM gN gO gP gQ gR gS gT gU gV gW gX gY gZ hA hB hC hD hE hF hG hH hI hJ hK hL hM hN hO hP hQ hR hS hT hU hV hW hX hY hZ h0 h1 h2 h3 h4 h5 h6:Value),Rg Try.prog Try.f20 (O20 [1,0,0]) false 14 S20_2 #[g0,.pointer x1,g2,g3,g4,g5,g6,g7,g8,g9,gA,gB,gC,gD,gE,gF,gG,gH,gI,.bool x19,gK,gL,gM,gN,gO,gP,gQ,gR,gS,gT,gU,gV,gW,gX,gY,gZ,hA,hB,hC,hD,hE,hF,hG,hH,hI,hJ,hK,hL,hM,hN,hO,hP,hQ,hR,hS,hT,hU,hV,hW,hX,hY,hZ,h0,h1,h2,h3,h4,h5,h6] M Q
noncomputable def S20_3:List Item:=[.code (P20 [1,0,1]),.code (P20 [1,1])]
def A20_3 (x1:Option Addr) (x24:Bool) (M:Mem) (Q:Value→Mem→Prop):Prop:=∀ (g0 g2 g3 g4 g5 g6 g7 g8 g9 gA gB gC gD gE gF gG gH gI gJ gK gL gM gN gP gQ gR gS gT gU gV gW gX gY gZ hA hB hC hD hE hF hG hH hI hJ hK hL hM hN hO hP hQ hR hS hT hU hV hW hX hY hZ h0 h1 h2 h3 h4 h5 h6:Value),Rg Try.prog Try.f20 (O20 [1,0,0]) false 19 S20_3 #[g0,.pointer x1,g2,g3,g4,g5,g6,g7,g8,g9,gA,gB,gC,gD,gE,gF,gG,gH,gI,gJ,gK,gL,gM,gN,.bool x24,gP,gQ,gR,gS,gT,gU,gV,gW,gX,gY,gZ,hA,hB,hC,hD,hE,hF,hG,hH,hI,hJ,hK,hL,hM,hN,hO,hP,hQ,hR,hS,hT,hU,hV,hW,hX,hY,hZ,h0,h1,h2,h3,h4,h5,h6] M Q
noncomputable def S20_4:List Item:=[.code (P20 [1,0,1]),.code (P20 [1,1])]
def A20_4 (x1:Option Addr) (x29:Bool) (M:Mem) (Q:Value→Mem→Prop):Prop:=∀ (g0 g2 g3 g4 g5 g6 g7 g8 g9 gA gB gC gD gE gF gG gH gI gJ gK gL gM gN gO gP gQ gR gS gU gV gW gX gY gZ hA hB hC hD hE hF hG hH hI hJ hK hL hM hN hO hP hQ hR hS hT hU hV hW hX hY hZ h0 h1 h2 h3 h4 h5 h6:Value),Rg Try.prog Try.f20 (O20 [1,0,0]) false 24 S20_4 #[g0,.pointer x1,g2,g3,g4,g5,g6,g7,g8,g9,gA,gB,gC,gD,gE,gF,gG,gH,gI,gJ,gK,gL,gM,gN,gO,gP,gQ,gR,gS,.bool x29,gU,gV,gW,gX,gY,gZ,hA,hB,hC,hD,hE,hF,hG,hH,hI,hJ,hK,hL,hM,hN,hO,hP,hQ,hR,hS,hT,hU,hV,hW,hX,hY,hZ,h0,h1,h2,h3,h4,h5,h6] M Q
noncomputable def S20_5:List Item:=[.code (P20 [1,0,1]),.code (P20 [1,1])]
def A20_5 (x1:Option Addr) (x34:Bool) (M:Mem) (Q:Value→Mem→Prop):Prop:=∀ (g0 g2 g3 g4 g5 g6 g7 g8 g9 gA gB gC gD gE gF gG gH gI gJ gK gL gM gN gO gP gQ gR gS gT gU gV gW gX gZ hA hB hC hD hE hF hG hH hI hJ hK hL hM hN hO hP hQ hR hS hT hU hV hW hX hY hZ h0 h1 h2 h3 h4 h5 h6:Value),Rg Try.prog Try.f20 (O20 [1,0,0]) false 29 S20_5 #[g0,.pointer x1,g2,g3,g4,g5,g6,g7,g8,g9,gA,gB,gC,gD,gE,gF,gG,gH,gI,gJ,gK,gL,gM,gN,gO,gP,gQ,gR,gS,gT,gU,gV,gW,gX,.bool x34,gZ,hA,hB,hC,hD,hE,hF,hG,hH,hI,hJ,hK,hL,hM,hN,hO,hP,hQ,hR,hS,hT,hU,hV,hW,hX,hY,hZ,h0,h1,h2,h3,h4,h5,h6] M Q
noncomputable def S20_6:List Item:=[.code (P20 [1,0,1]),.code (P20 [1,1])]
def A20_6 (x1:Option Addr) (x39:Bool) (M:Mem) (Q:Value→Mem→Prop):Prop:=∀ (g0 g2 g3 g4 g5 g6 g7 g8 g9 gA gB gC gD gE gF gG gH gI gJ gK gL gM gN gO gP gQ gR gS gT gU gV gW gX gY gZ hA hB hC hE hF hG hH hI hJ hK hL hM hN hO hP hQ hR hS hT hU hV hW hX hY hZ h0 h1 h2 h3 h4 h5 h6:Value),Rg Try.prog Try.f20 (O20 [1,0,0]) false 34 S20_6 #[g0,.pointer x1,g2,g3,g4,g5,g6,g7,g8,g9,gA,gB,gC,gD,gE,gF,gG,gH,gI,gJ,gK,gL,gM,gN,gO,gP,gQ,gR,gS,gT,gU,gV,gW,gX,gY,gZ,hA,hB,hC,.bool x39,hE,hF,hG,hH,hI,hJ,hK,hL,hM,hN,hO,hP,hQ,hR,hS,hT,hU,hV,hW,hX,hY,hZ,h0,h1,h2,h3,h4,h5,h6] M Q
noncomputable def S20_7:List Item:=[.code (P20 [1,0,1]),.code (P20 [1,1])]
def A20_7 (x1:Option Addr) (x43:Bool) (M:Mem) (Q:Value→Mem→Prop):Prop:=∀ (g0 g2 g3 g4 g5 g6 g7 g8 g9 gA gB gC gD gE gF gG gH gI gJ gK gL gM gN gO gP gQ gR gS gT gU gV gW gX gY gZ hA hB hC hD hE hF hG hI hJ hK hL hM hN hO hP hQ hR hS hT hU hV hW hX hY hZ h0 h1 h2 h3 h4 h5 h6:Value),Rn Try.prog Try.f20 S20_7 #[g0,.pointer x1,g2,g3,g4,g5,g6,g7,g8,g9,gA,gB,gC,gD,gE,gF,gG,gH,gI,gJ,gK,gL,gM,gN,gO,gP,gQ,gR,gS,gT,gU,gV,gW,gX,gY,gZ,hA,hB,hC,hD,hE,hF,hG,.bool x43,hI,hJ,hK,hL,hM,hN,hO,hP,hQ,hR,hS,hT,hU,hV,hW,hX,hY,hZ,h0,h1,h2,h3,h4,h5,h6] M Q
noncomputable def S20_8:List Item:=[.code (P20 [1,1,1,0,1,0,0]),.inLoop (P20 [1,1,1,0,1,0,0]),.inBlock 0,.code (P20 [1,1,1,1])]
def A20_8 (x1 Y3:Option Addr) (l3 y3:Nat) (x4:Int) (M:Mem) (Q:Value→Mem→Prop):Prop:=∀ (g0 g2 g5 g6 g7 g8 g9 gA gB gC gD gE gF gG gH gI gJ gK gL gM gN gO gP gQ gR gS gT gU gV gW gX gY gZ hA hB hC hD hE hF hG hH hI hJ hK hL hM hN hO hP hQ hR hS hT hU hV hW hX hY hZ h0 h1 h2 h3 h4 h5 h6:Value),Rn Try.prog Try.f20 S20_8 #[g0,.pointer x1,g2,.slice Y3 l3 y3,.int .i64 x4,g5,g6,g7,g8,g9,gA,gB,gC,gD,gE,gF,gG,gH,gI,gJ,gK,gL,gM,gN,gO,gP,gQ,gR,gS,gT,gU,gV,gW,gX,gY,gZ,hA,hB,hC,hD,hE,hF,hG,hH,hI,hJ,hK,hL,hM,hN,hO,hP,hQ,hR,hS,hT,hU,hV,hW,hX,hY,hZ,h0,h1,h2,h3,h4,h5,h6] M Q
noncomputable def S20_9:List Item:=[.code (P20 [1,1,1,0,1,0,0,1,0,0,1,0,0]),.inLoop (P20 [1,1,1,0,1,0,0,1,0,0,1,0,0]),.inBlock 2,.inBlock 1,.code (P20 [1,1,1,0,1,0,0,1,1]),.inLoop (P20 [1,1,1,0,1,0,0]),.inBlock 0,.code (P20 [1,1,1,1])]
def A20_9 (x1 Y3:Option Addr) (l3 y3:Nat) (x4 x5:Int) (M:Mem) (Q:Value→Mem→Prop):Prop:=∀ (g0 g2 g6 g7 g8 g9 gA gB gC gD gE gF gG gH gI gJ gK gL gM gN gO gP gQ gR gS gT gU gV gW gX gY gZ hA hB hC hD hE hF hG hH hI hJ hK hL hM hN hO hP hQ hR hS hT hU hV hW hX hY hZ h0 h1 h2 h3 h4 h5 h6:Value),Rn Try.prog Try.f20 S20_9 #[g0,.pointer x1,g2,.slice Y3 l3 y3,.int .i64 x4,.int .i64 x5,g6,g7,g8,g9,gA,gB,gC,gD,gE,gF,gG,gH,gI,gJ,gK,gL,gM,gN,gO,gP,gQ,gR,gS,gT,gU,gV,gW,gX,gY,gZ,hA,hB,hC,hD,hE,hF,hG,hH,hI,hJ,hK,hL,hM,hN,hO,hP,hQ,hR,hS,hT,hU,hV,hW,hX,hY,hZ,h0,h1,h2,h3,h4,h5,h6] M Q
theorem w20_0 {x0_0 x0_1 x0_2 x0_3:Int} {M:Mem} {Q:Value→Mem→Prop} (H :
 ∃x1',(M.new (.cells #[.int .i64 x0_0,.int .i64 x0_1,.int .i64 x0_2,.int .i64 x0_3] 35)).intAt .i64 (2*M.nb.size) (0+2)=some x1'∧
 ((x1'<1→
 A20_1 (some ⟨2*M.nb.size,0,none⟩) true (M.new (.cells #[.int .i64 x0_0,.int .i64 x0_1,.int .i64 x0_2,.int .i64 x0_3] 35)) Q)∧
 (¬(x1'<1)→
 ∃x2',(M.new (.cells #[.int .i64 x0_0,.int .i64 x0_1,.int .i64 x0_2,.int .i64 x0_3] 35)).intAt .i64 (2*M.nb.size) (0+2)=some x2'∧
 A20_1 (some ⟨2*M.nb.size,0,none⟩) (decide (x2'>256)) (M.new (.cells #[.int .i64 x0_0,.int .i64 x0_1,.int .i64 x0_2,.int .i64 x0_3] 35)) Q))):
 Cn Try.prog 20 #[.agg #[.int .i64 x0_0,.int .i64 x0_1,.int .i64 x0_2,.int .i64 x0_3]] M Q:=by
  refine Cn.of b20 d20 t20 ?_
  refine Rn.seq k20_0 (Rn.region k20_1 (fun call K=>r20_0) (Rch.leaf (Rn.seq k20_2 (Rn.seq k20_3 (Rn.regionC k20_5 (Rg.step (d:=9) (j:=9) (fun call K=>r20_1p0) rfl rfl (Rch.bind (x:=⟨2*M.nb.size,0,none⟩) rfl (Rch.ex H fun x1' H=>?_))))))))
  refine Rch.cB (fun h=>?_) (fun h=>?_)
  · replace H:=H.1 (of_decide_eq_true h)
    refine Rch.rest ?_
    exact H ..
  · replace H:=H.2 (of_decide_eq_false h)
    refine Rch.bind (x:=⟨2*M.nb.size,0,none⟩) rfl (Rch.ex H fun x2' H=>Rch.rest ?_)
    exact H ..
theorem w20_1 {x1:Option Addr} {x14:Bool} {M:Mem} {Q:Value→Mem→Prop} (H :
 ((x14=true→
 A20_2 x1 true M Q)∧
 (x14=false→
 ∃a3',x1=some a3'∧
 ∃x4',M.intAt .i64 a3'.block (a3'.off+3)=some x4'∧
 A20_2 x1 (decide (x4'<1)) M Q))):
 A20_1 x1 x14 M Q:=by
  iterate 67 intro _
  refine Rg.step (d:=5) (j:=14) (fun call K=>r20_1p9) rfl rfl ?_
  refine Rch.cB (fun h=>?_) (fun h=>?_)
  · replace H:=H.1 (h)
    refine Rch.rest ?_
    exact H ..
  · replace H:=H.2 (h)
    refine Rch.ex H fun a3' H=>Rch.ex H fun x4' H=>Rch.rest ?_
    exact H ..
theorem w20_2 {x1:Option Addr} {x19:Bool} {M:Mem} {Q:Value→Mem→Prop} (H :
 ((x19=true→
 A20_3 x1 true M Q)∧
 (x19=false→
 ∃a5',x1=some a5'∧
 ∃x6',M.intAt .i64 a5'.block (a5'.off+3)=some x6'∧
 A20_3 x1 (decide (x6'>256)) M Q))):
 A20_2 x1 x19 M Q:=by
  iterate 67 intro _
  refine Rg.step (d:=5) (j:=19) (fun call K=>r20_1p14) rfl rfl ?_
  refine Rch.cB (fun h=>?_) (fun h=>?_)
  · replace H:=H.1 (h)
    refine Rch.rest ?_
    exact H ..
  · replace H:=H.2 (h)
    refine Rch.ex H fun a5' H=>Rch.ex H fun x6' H=>Rch.rest ?_
    exact H ..
theorem w20_3 {x1:Option Addr} {x24:Bool} {M:Mem} {Q:Value→Mem→Prop} (H :
 ((x24=true→
 A20_4 x1 true M Q)∧
 (x24=false→
 ∃a7',x1=some a7'∧
 ∃x8',M.intAt .i64 a7'.block a7'.off=some x8'∧
 A20_4 x1 (decide (x8'<0)) M Q))):
 A20_3 x1 x24 M Q:=by
  iterate 67 intro _
  refine Rg.step (d:=5) (j:=24) (fun call K=>r20_1p19) rfl rfl ?_
  refine Rch.cB (fun h=>?_) (fun h=>?_)
  · replace H:=H.1 (h)
    refine Rch.rest ?_
    exact H ..
  · replace H:=H.2 (h)
    refine Rch.ex H fun a7' H=>Rch.ex H fun x8' H=>Rch.rest ?_
    exact H ..
theorem w20_4 {x1:Option Addr} {x29:Bool} {M:Mem} {Q:Value→Mem→Prop} (H :
 ((x29=true→
 A20_5 x1 true M Q)∧
 (x29=false→
 ∃a9',x1=some a9'∧
 ∃x10',M.intAt .i64 a9'.block a9'.off=some x10'∧
 A20_5 x1 (decide (x10'>256)) M Q))):
 A20_4 x1 x29 M Q:=by
  iterate 67 intro _
  refine Rg.step (d:=5) (j:=29) (fun call K=>r20_1p24) rfl rfl ?_
  refine Rch.cB (fun h=>?_) (fun h=>?_)
  · replace H:=H.1 (h)
    refine Rch.rest ?_
    exact H ..
  · replace H:=H.2 (h)
    refine Rch.ex H fun a9' H=>Rch.ex H fun x10' H=>Rch.rest ?_
    exact H ..
theorem w20_5 {x1:Option Addr} {x34:Bool} {M:Mem} {Q:Value→Mem→Prop} (H :
 ((x34=true→
 A20_6 x1 true M Q)∧
 (x34=false→
 ∃a11',x1=some a11'∧
 ∃x12',M.intAt .i64 a11'.block (a11'.off+1)=some x12'∧
 A20_6 x1 (decide (x12'<0)) M Q))):
 A20_5 x1 x34 M Q:=by
  iterate 67 intro _
  refine Rg.step (d:=5) (j:=34) (fun call K=>r20_1p29) rfl rfl ?_
  refine Rch.cB (fun h=>?_) (fun h=>?_)
  · replace H:=H.1 (h)
    refine Rch.rest ?_
    exact H ..
  · replace H:=H.2 (h)
    refine Rch.ex H fun a11' H=>Rch.ex H fun x12' H=>Rch.rest ?_
    exact H ..
theorem w20_6 {x1:Option Addr} {x39:Bool} {M:Mem} {Q:Value→Mem→Prop} (H :
 ((x39=true→
 A20_7 x1 true M Q)∧
 (x39=false→
 ∃a13',x1=some a13'∧
 ∃x14',M.intAt .i64 a13'.block (a13'.off+1)=some x14'∧
 A20_7 x1 (decide (x14'>256)) M Q))):
 A20_6 x1 x39 M Q:=by
  iterate 67 intro _
  refine Rg.step (d:=4) (j:=38) (fun call K=>r20_1p34) rfl rfl ?_
  refine Rch.cB (fun h=>?_) (fun h=>?_)
  · replace H:=H.1 (h)
    refine Rch.rest (Rg.done rfl ?_)
    exact H ..
  · replace H:=H.2 (h)
    refine Rch.ex H fun a13' H=>Rch.ex H fun x14' H=>Rch.rest (Rg.done rfl ?_)
    exact H ..
theorem w20_7 {x1:Option Addr} {x43:Bool} {M:Mem} {Q:Value→Mem→Prop} (H :
 ((x43=true→
 Q (.slice none 0 0) M)∧
 (x43=false→
 A20_8 x1 none 0 0 0 M Q))):
 A20_7 x1 x43 M Q:=by
  iterate 67 intro _
  refine Rn.cnd (v:=x43) ⟨c20_6,rfl,by kernel_rfl⟩ (fun h=>?_) (fun h=>?_)
  · replace H:=H.1 (h)
    refine Rn.seq k20_7 (Rn.region k20_8 (fun call K=>r20_2) (Rch.leaf ?_))
    exact Rn.ret k20_9 e20 H
  · replace H:=H.2 (h)
    refine Rn.skip k20_11 (Rn.seq k20_12 (Rn.region k20_13 (fun call K=>r20_3) (Rch.leaf (Rn.seq k20_14 (Rn.seq k20_15 (Rn.region k20_16 (fun call K=>r20_4) (Rch.leaf (Rn.block k20_17 (Rn.loop k20_18 ?_)))))))))
    exact H ..
theorem w20_8 {x1 Y3:Option Addr} {l3 y3:Nat} {x4:Int} {M:Mem} {Q:Value→Mem→Prop} (H :
 ∃a15',x1=some a15'∧
 ∃x16',M.intAt .i64 a15'.block (a15'.off+3)=some x16'∧
 ((x4<x16'→
 A20_9 x1 Y3 l3 y3 x4 0 M Q)∧
 (¬(x4<x16')→
 Q (.slice Y3 l3 y3) M))):
 A20_8 x1 Y3 l3 y3 x4 M Q:=by
  iterate 66 intro _
  refine Rn.seq k20_19 (Rn.seq k20_20 (Rn.region k20_21 (fun call K=>r20_5) (Rch.ex H fun a15' H=>Rch.ex H fun x16' H=>Rch.leaf ?_)))
  refine Rn.cnd (v:=decide (x4<x16')) ⟨c20_22,rfl,by kernel_rfl⟩ (fun h=>?_) (fun h=>?_)
  · replace H:=H.1 (of_decide_eq_true h)
    refine Rn.skip k20_23 (Rn.seq k20_24 (Rn.block k20_25 (Rn.seq k20_26 (Rn.region k20_27 (fun call K=>r20_7) (Rch.leaf (Rn.block k20_28 (Rn.loop k20_29 ?_)))))))
    exact H ..
  · replace H:=H.2 (of_decide_eq_false h)
    refine Rn.exit k20_30 rfl (Rn.seq k20_31 (Rn.region k20_32 (fun call K=>r20_11) (Rch.leaf ?_)))
    exact Rn.ret k20_33 e20 H
theorem w20_9 {x1 Y3:Option Addr} {l3 y3:Nat} {x4 x5:Int} {M:Mem} {Q:Value→Mem→Prop} (H :
 ∃a17',x1=some a17'∧
 ∃x18',M.intAt .i64 a17'.block (a17'.off+2)=some x18'∧
 ((x5<x18'→
 ∃a19',x1=some a19'∧
 ∃x20',M.intAt .i64 a19'.block a19'.off=some x20'∧
 ∃a21',x1=some a21'∧
 ∃x22',M.intAt .i64 a21'.block (a21'.off+1)=some x22'∧
 ∃r23',appendP Try.prog #[36,36] (.slice Y3 l3 y3) (.slice (some ⟨2*M.nb.size,0,none⟩) 1 1) (M.new (.cells #[.int .i64 (IntKind.i64.wrap (x20'+x5)),.int .i64 (IntKind.i64.wrap (x22'+x4)),.int .i64 64,.int .i64 64] 35))=some r23'∧
 ∃s24',asS r23'.1=some s24'∧
 A20_9 x1 s24'.1 s24'.2.1 s24'.2.2 x4 (IntKind.i64.wrap (x5+64)) r23'.2 Q)∧
 (¬(x5<x18')→
 A20_8 x1 Y3 l3 y3 (IntKind.i64.wrap (x4+64)) M Q))):
 A20_9 x1 Y3 l3 y3 x4 x5 M Q:=by
  iterate 65 intro _
  refine Rn.seq k20_34 (Rn.seq k20_35 (Rn.region k20_36 (fun call K=>r20_8) (Rch.ex H fun a17' H=>Rch.ex H fun x18' H=>Rch.leaf ?_)))
  refine Rn.cnd (v:=decide (x5<x18')) ⟨c20_37,rfl,by kernel_rfl⟩ (fun h=>?_) (fun h=>?_)
  · replace H:=H.1 (of_decide_eq_true h)
    refine Rn.skip k20_38 (Rn.seq k20_39 (Rn.block k20_40 (Rn.region k20_41 (fun call K=>r20_10) (Rch.ex H fun a19' H=>Rch.ex H fun x20' H=>Rch.ex H fun a21' H=>Rch.ex H fun x22' H=>Rch.ex H fun r23' H=>Rch.ex H fun s24' H=>Rch.leaf (Rn.blk ?_)))))
    refine Rn.region k20_42 (fun call K=>r20_9) (Rch.leaf (Rn.lp ?_))
    exact H ..
  · replace H:=H.2 (of_decide_eq_false h)
    refine Rn.exit k20_43 rfl (Rn.blk (Rn.region k20_44 (fun call K=>r20_6) (Rch.leaf (Rn.lp ?_))))
    exact H ..
noncomputable abbrev P15 (p:List Nat):Code:=subC (codeOf Try.f15) p
noncomputable abbrev O15 (p:List Nat):Array Oper:=opsOf (subC (codeOf Try.f15) p)
theorem b15:Try.prog.funcs[15]?=some Try.f15∧(Orc.tab Try.prog).lookup 15=none:=⟨by kernel_rfl,by kernel_rfl⟩
theorem d15:Try.f15.body=some (P15 []):=by kernel_rfl
theorem t15 {x0 x1:Int}:#[.int .i64 x0,.int .i64 x1] ++ Array.replicate (Try.f15.ntmps-(#[.int .i64 x0,.int .i64 x1]:Array Value).size) undef=#[.int .i64 x0,.int .i64 x1,undef,undef,undef,undef,undef,undef,undef,undef,undef,undef,undef,undef,undef,undef]:=by kernel_rfl
theorem k15_0:P15 []=.seq (P15 [0]) (P15 [1]):=by kernel_rfl
theorem k15_1:P15 [0]=.region 0 (O15 [0]) false:=by kernel_rfl
theorem r15_0 {M:Mem} {call:CallM} {K:Array Value→Mem→R} :
 opsK Try.prog (fun _=>call) (O15 [0]) (O15 [0]).toList 0 #[g0,g1,g2,g3,g4,g5,g6,g7,g8,g9,gA,gB,gC,gD,gE,gF] M K=K #[g0,g1,g2,g3,.int .i64 0,g5,g6,g7,g8,g9,gA,gB,gC,gD,gE,gF] M:=by kernel_rfl
theorem k15_2:P15 [1]=.seq (P15 [1,0]) (P15 [1,1]):=by kernel_rfl
theorem k15_3:P15 [1,0]=.seq (P15 [1,0,0]) (P15 [1,0,1]):=by kernel_rfl
theorem k15_4:P15 [1,0,0]=.region 1 (O15 [1,0,0]) false:=by kernel_rfl
theorem r15_1 {x1:Int} {M:Mem} {call:CallM} {K:Array Value→Mem→R} :
 opsK Try.prog (fun _=>call) (O15 [1,0,0]) (O15 [1,0,0]).toList 0 #[g0,.int .i64 x1,g2,g3,g4,g5,g6,g7,g8,g9,gA,gB,gC,gD,gE,gF] M K=K #[g0,.int .i64 x1,g2,g3,g4,.int .i64 x1,.bool (decide (x1≤0)),g7,g8,g9,gA,gB,gC,gD,gE,gF] M:=by kernel_rfl
theorem c15_5:P15 [1,0,1]=.cond (.tmp 6) (P15 [1,0,1,0]) (P15 [1,0,1,1]):=by kernel_rfl
theorem k15_6:P15 [1,0,1,0]=.seq (P15 [1,0,1,0,0]) (P15 [1,0,1,0,1]):=by kernel_rfl
theorem k15_7:P15 [1,0,1,0,0]=.region 2 (O15 [1,0,1,0,0]) false:=by kernel_rfl
theorem r15_2 {M:Mem} {call:CallM} {K:Array Value→Mem→R} :
 opsK Try.prog (fun _=>call) (O15 [1,0,1,0,0]) (O15 [1,0,1,0,0]).toList 0 #[g0,g1,g2,g3,g4,g5,g6,g7,g8,g9,gA,gB,gC,gD,gE,gF] M K=K #[g0,g1,g2,g3,.int .i64 0,g5,g6,g7,g8,g9,gA,gB,gC,gD,gE,gF] M:=by kernel_rfl
theorem k15_8:P15 [1,0,1,0,1]=.ret:=by kernel_rfl
theorem e15 {M:Mem}:finish Try.prog Try.f15 #[g0,g1,g2,g3,g4,g5,g6,g7,g8,g9,gA,gB,gC,gD,gE,gF] M=some (g4,M):=by kernel_rfl
theorem k15_10:P15 [1,0,1,1]=.skip:=by kernel_rfl
theorem k15_11:P15 [1,1]=.seq (P15 [1,1,0]) (P15 [1,1,1]):=by kernel_rfl
theorem k15_12:P15 [1,1,0]=.region 3 (O15 [1,1,0]) false:=by kernel_rfl
theorem r15_3 {x0 x1:Int} {M:Mem} {call:CallM} {K:Array Value→Mem→R} :
 opsK Try.prog (fun _=>call) (O15 [1,1,0]) (O15 [1,1,0]).toList 0 #[.int .i64 x0,.int .i64 x1,g2,g3,g4,g5,g6,g7,g8,g9,gA,gB,gC,gD,gE,gF] M K=(binV Try.prog .rem 3 3 (.int .i64 x0) (.int .i64 x1)).bind fun v_1=>(asI .i64 v_1).bind fun x_2=>K #[.int .i64 x_2,.int .i64 x1,g2,g3,g4,g5,g6,.int .i64 x0,.int .i64 x1,.int .i64 x_2,gA,gB,gC,gD,gE,gF] M:=by kernel_rfl
theorem k15_13:P15 [1,1,1]=.seq (P15 [1,1,1,0]) (P15 [1,1,1,1]):=by kernel_rfl
theorem k15_14:P15 [1,1,1,0]=.seq (P15 [1,1,1,0,0]) (P15 [1,1,1,0,1]):=by kernel_rfl
theorem k15_15:P15 [1,1,1,0,0]=.region 4 (O15 [1,1,1,0,0]) false:=by kernel_rfl
theorem r15_4 {x0:Int} {M:Mem} {call:CallM} {K:Array Value→Mem→R} :
 opsK Try.prog (fun _=>call) (O15 [1,1,1,0,0]) (O15 [1,1,1,0,0]).toList 0 #[.int .i64 x0,g1,g2,g3,g4,g5,g6,g7,g8,g9,gA,gB,gC,gD,gE,gF] M K=K #[.int .i64 x0,g1,g2,g3,g4,g5,g6,g7,g8,g9,.int .i64 x0,.bool (decide (x0<0)),gC,gD,gE,gF] M:=by kernel_rfl
theorem c15_16:P15 [1,1,1,0,1]=.cond (.tmp 11) (P15 [1,1,1,0,1,0]) (P15 [1,1,1,0,1,1]):=by kernel_rfl
theorem k15_17:P15 [1,1,1,0,1,0]=.region 5 (O15 [1,1,1,0,1,0]) false:=by kernel_rfl
theorem r15_5 {x0 x1:Int} {M:Mem} {call:CallM} {K:Array Value→Mem→R} :
 opsK Try.prog (fun _=>call) (O15 [1,1,1,0,1,0]) (O15 [1,1,1,0,1,0]).toList 0 #[.int .i64 x0,.int .i64 x1,g2,g3,g4,g5,g6,g7,g8,g9,gA,gB,gC,gD,gE,gF] M K=K #[.int .i64 (IntKind.i64.wrap (x0+x1)),.int .i64 x1,g2,g3,g4,g5,g6,g7,g8,g9,gA,gB,.int .i64 x0,.int .i64 x1,.int .i64 (IntKind.i64.wrap (x0+x1)),gF] M:=by kernel_rfl
theorem k15_18:P15 [1,1,1,1]=.seq (P15 [1,1,1,1,0]) (P15 [1,1,1,1,1]):=by kernel_rfl
theorem k15_19:P15 [1,1,1,1,0]=.region 6 (O15 [1,1,1,1,0]) false:=by kernel_rfl
theorem r15_6 {x0:Int} {M:Mem} {call:CallM} {K:Array Value→Mem→R} :
 opsK Try.prog (fun _=>call) (O15 [1,1,1,1,0]) (O15 [1,1,1,1,0]).toList 0 #[.int .i64 x0,g1,g2,g3,g4,g5,g6,g7,g8,g9,gA,gB,gC,gD,gE,gF] M K=K #[.int .i64 x0,g1,g2,g3,.int .i64 x0,g5,g6,g7,g8,g9,gA,gB,gC,gD,gE,.int .i64 x0] M:=by kernel_rfl
theorem k15_20:P15 [1,1,1,1,1]=.ret:=by kernel_rfl
theorem k15_21:P15 [1,1,1,0,1,1]=.skip:=by kernel_rfl
theorem w15_0 {x0 x1:Int} {M:Mem} {Q:Value→Mem→Prop} (H :
 ((x1≤0→
 Q (.int .i64 0) M)∧
 (¬(x1≤0)→
 ∃v1',binV Try.prog .rem 3 3 (.int .i64 x0) (.int .i64 x1)=some v1'∧
 ∃x2',asI .i64 v1'=some x2'∧
 ((x2'<0→
 Q (.int .i64 (IntKind.i64.wrap (x2'+x1))) M)∧
 (¬(x2'<0)→
 Q (.int .i64 (x2')) M))))):
 Cn Try.prog 15 #[.int .i64 x0,.int .i64 x1] M Q:=by
  refine Cn.of b15 d15 t15 ?_
  refine Rn.seq k15_0 (Rn.region k15_1 (fun call K=>r15_0) (Rch.leaf (Rn.seq k15_2 (Rn.seq k15_3 (Rn.region k15_4 (fun call K=>r15_1) (Rch.leaf ?_))))))
  refine Rn.cnd (v:=decide (x1≤0)) ⟨c15_5,rfl,by kernel_rfl⟩ (fun h=>?_) (fun h=>?_)
  · replace H:=H.1 (of_decide_eq_true h)
    refine Rn.seq k15_6 (Rn.region k15_7 (fun call K=>r15_2) (Rch.leaf ?_))
    exact Rn.ret k15_8 e15 H
  · replace H:=H.2 (of_decide_eq_false h)
    refine Rn.skip k15_10 (Rn.seq k15_11 (Rn.region k15_12 (fun call K=>r15_3) (Rch.ex H fun v1' H=>Rch.ex H fun x2' H=>Rch.leaf (Rn.seq k15_13 (Rn.seq k15_14 (Rn.region k15_15 (fun call K=>r15_4) (Rch.leaf ?_)))))))
    refine Rn.cnd (v:=decide (x2'<0)) ⟨c15_16,rfl,by kernel_rfl⟩ (fun h=>?_) (fun h=>?_)
    · replace H:=H.1 (of_decide_eq_true h)
      refine Rn.region k15_17 (fun call K=>r15_5) (Rch.leaf (Rn.seq k15_18 (Rn.region k15_19 (fun call K=>r15_6) (Rch.leaf ?_))))
      exact Rn.ret k15_20 e15 H
    · replace H:=H.2 (of_decide_eq_false h)
      refine Rn.skip k15_21 (Rn.seq k15_18 (Rn.region k15_19 (fun call K=>r15_6) (Rch.leaf ?_)))
      exact Rn.ret k15_20 e15 H
end Go.Zt
