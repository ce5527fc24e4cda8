/- The functions' walks: for each function and each loop a rule of what it comes to. Printed by zw.py. -/
import Derived.Test.YtnhfoiijkadajaaProg
import Derived.Test.YtnhfoiijkadajaaZeA
set_option linter.unusedVariables false
set_option maxRecDepth 100000
namespace Go.Zu
open Go Go.Sim Go.Proofs
variable {g0 g1 g2 g3 g4 g5 g6 g7 g8 g9 gA gB gC gD gE gF gG gH gI gJ gK gL gM gN gO gP gQ gR gS gT gU gV gW gX gY gZ hA hB hC hD hE hF hG hH hI hJ hK hL hM hN hO hP hQ hR hS hT hU hV hW hX hY hZ h0 h1 h2 h3 h4 h5:Value}
noncomputable abbrev P57 (p:List Nat):Code:=subC (codeOf Try.f57) p
noncomputable abbrev O57 (p:List Nat):Array Oper:=opsOf (subC (codeOf Try.f57) p)
theorem b57:Try.prog.funcs[57]?=some Try.f57∧(Orc.tab Try.prog).lookup 57=none:=⟨by kernel_rfl,by kernel_rfl⟩
theorem d57:Try.f57.body=some (P57 []):=by kernel_rfl
theorem t57 {x0:Option Addr} {x1 x2:Int}:#[.pointer x0,.int .i64 x1,.int .i64 x2] ++ Array.replicate (Try.f57.ntmps-(#[.pointer x0,.int .i64 x1,.int .i64 x2]:Array Value).size) undef=#[.pointer x0,.int .i64 x1,.int .i64 x2,undef,undef,undef,undef,undef,undef,undef,undef,undef,undef,undef,undef,undef,undef,undef,undef,undef,undef,undef,undef,undef,undef,undef,undef,undef]:=by kernel_rfl
theorem k57_0:P57 []=.seq (P57 [0]) (P57 [1]):=by kernel_rfl
theorem k57_1:P57 [0]=.region 0 (O57 [0]) false:=by kernel_rfl
theorem r57_0 {M:Mem} {call:CallM} {K:Array Value→Mem→R} :
 opsK Try.prog (fun _=>call) (O57 [0]) (O57 [0]).toList 0 #[g0,g1,g2,g3,g4,g5,g6,g7,g8,g9,gA,gB,gC,gD,gE,gF,gG,gH,gI,gJ,gK,gL,gM,gN,gO,gP,gQ,gR] M K=K #[g0,g1,g2,g3,g4,g5,.int .u64 0,g7,g8,g9,gA,gB,gC,gD,gE,gF,gG,gH,gI,gJ,gK,gL,gM,gN,gO,gP,gQ,gR] M:=by kernel_rfl
theorem k57_2:P57 [1]=.seq (P57 [1,0]) (P57 [1,1]):=by kernel_rfl
theorem k57_3:P57 [1,0]=.region 1 (O57 [1,0]) false:=by kernel_rfl
theorem r57_1 {M:Mem} {call:CallM} {K:Array Value→Mem→R} :
 opsK Try.prog (fun _=>call) (O57 [1,0]) (O57 [1,0]).toList 0 #[g0,g1,g2,g3,g4,g5,g6,g7,g8,g9,gA,gB,gC,gD,gE,gF,gG,gH,gI,gJ,gK,gL,gM,gN,gO,gP,gQ,gR] M K=K #[g0,g1,g2,g3,g4,g5,g6,.int .u64 0,g8,g9,gA,gB,gC,gD,gE,gF,gG,gH,gI,gJ,gK,gL,gM,gN,gO,gP,gQ,gR] M:=by kernel_rfl
theorem k57_4:P57 [1,1]=.seq (P57 [1,1,0]) (P57 [1,1,1]):=by kernel_rfl
theorem k57_5:P57 [1,1,0]=.seq (P57 [1,1,0,0]) (P57 [1,1,0,1]):=by kernel_rfl
theorem k57_6:P57 [1,1,0,0]=.region 2 (O57 [1,1,0,0]) false:=by kernel_rfl
theorem r57_2 {M:Mem} {call:CallM} {K:Array Value→Mem→R} :
 opsK Try.prog (fun _=>call) (O57 [1,1,0,0]) (O57 [1,1,0,0]).toList 0 #[g0,g1,g2,g3,g4,g5,g6,g7,g8,g9,gA,gB,gC,gD,gE,gF,gG,gH,gI,gJ,gK,gL,gM,gN,gO,gP,gQ,gR] M K=K #[g0,g1,g2,g3,g4,g5,g6,g7,.int .i64 0,g9,gA,gB,gC,gD,gE,gF,gG,gH,gI,gJ,gK,gL,gM,gN,gO,gP,gQ,gR] M:=by kernel_rfl
theorem k57_7:P57 [1,1,0,1]=.block 0 (P57 [1,1,0,1,0]):=by kernel_rfl
theorem k57_8:P57 [1,1,0,1,0]=.loop (P57 [1,1,0,1,0,0]):=by kernel_rfl
theorem k57_9:P57 [1,1,0,1,0,0]=.seq (P57 [1,1,0,1,0,0,0]) (P57 [1,1,0,1,0,0,1]):=by kernel_rfl
theorem k57_10:P57 [1,1,0,1,0,0,0]=.seq (P57 [1,1,0,1,0,0,0,0]) (P57 [1,1,0,1,0,0,0,1]):=by kernel_rfl
theorem k57_11:P57 [1,1,0,1,0,0,0,0]=.region 3 (O57 [1,1,0,1,0,0,0,0]) false:=by kernel_rfl
theorem r57_3 {x2 x8:Int} {M:Mem} {call:CallM} {K:Array Value→Mem→R} :
 opsK Try.prog (fun _=>call) (O57 [1,1,0,1,0,0,0,0]) (O57 [1,1,0,1,0,0,0,0]).toList 0 #[g0,g1,.int .i64 x2,g3,g4,g5,g6,g7,.int .i64 x8,g9,gA,gB,gC,gD,gE,gF,gG,gH,gI,gJ,gK,gL,gM,gN,gO,gP,gQ,gR] M K=K #[g0,g1,.int .i64 x2,g3,g4,g5,g6,g7,.int .i64 x8,.int .i64 x8,.int .i64 x2,.bool (decide (x8<x2)),gC,gD,gE,gF,gG,gH,gI,gJ,gK,gL,gM,gN,gO,gP,gQ,gR] M:=by kernel_rfl
theorem c57_12:P57 [1,1,0,1,0,0,0,1]=.cond (.tmp 11) (P57 [1,1,0,1,0,0,0,1,0]) (P57 [1,1,0,1,0,0,0,1,1]):=by kernel_rfl
theorem k57_13:P57 [1,1,0,1,0,0,0,1,0]=.skip:=by kernel_rfl
theorem k57_14:P57 [1,1,0,1,0,0,1]=.seq (P57 [1,1,0,1,0,0,1,0]) (P57 [1,1,0,1,0,0,1,1]):=by kernel_rfl
theorem k57_15:P57 [1,1,0,1,0,0,1,0]=.block 1 (P57 [1,1,0,1,0,0,1,0,0]):=by kernel_rfl
theorem k57_16:P57 [1,1,0,1,0,0,1,0,0]=.region 5 (O57 [1,1,0,1,0,0,1,0,0]) false:=by kernel_rfl
theorem r57_5 {x0:Option Addr} {x1 x7 x8:Int} {M:Mem} {call:CallM} {K:Array Value→Mem→R} :
 opsK Try.prog (fun _=>call) (O57 [1,1,0,1,0,0,1,0,0]) (O57 [1,1,0,1,0,0,1,0,0]).toList 0 #[.pointer x0,.int .i64 x1,g2,g3,g4,g5,g6,.int .u64 x7,.int .i64 x8,g9,gA,gB,gC,gD,gE,gF,gG,gH,gI,gJ,gK,gL,gM,gN,gO,gP,gQ,gR] M K=(x0).bind fun a_1=>(M.slAt a_1.block a_1.off).bind fun s_2=>(idxA s_2.1 (s_2.2.1) 1 (IntKind.i64.wrap (x1+x8))).bind fun a_3=>(M.intAt .i64 a_3.block a_3.off).bind fun x_4=>K #[.pointer x0,.int .i64 x1,g2,g3,g4,g5,g6,.int .u64 (IntKind.u64.wrap ((IntKind.u64.wrap (x7*2))+(IntKind.u64.wrap (x_4)))),.int .i64 x8,g9,gA,gB,gC,gD,.int .u64 x7,.int .u64 (IntKind.u64.wrap (x7*2)),.pointer x0,.pointer (some a_1),.pointer (some ⟨a_1.block,a_1.off,none⟩),.slice s_2.1 (s_2.2.1) (s_2.2.2),.int .i64 x1,.int .i64 x8,.int .i64 (IntKind.i64.wrap (x1+x8)),.pointer (some a_3),.int .i64 x_4,.int .u64 (IntKind.u64.wrap (x_4)),.int .u64 (IntKind.u64.wrap ((IntKind.u64.wrap (x7*2))+(IntKind.u64.wrap (x_4)))),gR] M:=by kernel_rfl
theorem k57_17:P57 [1,1,0,1,0,0,1,1]=.region 4 (O57 [1,1,0,1,0,0,1,1]) false:=by kernel_rfl
theorem r57_4 {x8:Int} {M:Mem} {call:CallM} {K:Array Value→Mem→R} :
 opsK Try.prog (fun _=>call) (O57 [1,1,0,1,0,0,1,1]) (O57 [1,1,0,1,0,0,1,1]).toList 0 #[g0,g1,g2,g3,g4,g5,g6,g7,.int .i64 x8,g9,gA,gB,gC,gD,gE,gF,gG,gH,gI,gJ,gK,gL,gM,gN,gO,gP,gQ,gR] M K=K #[g0,g1,g2,g3,g4,g5,g6,g7,.int .i64 (IntKind.i64.wrap (x8+1)),g9,gA,gB,.int .i64 x8,.int .i64 (IntKind.i64.wrap (x8+1)),gE,gF,gG,gH,gI,gJ,gK,gL,gM,gN,gO,gP,gQ,gR] M:=by kernel_rfl
theorem k57_18:P57 [1,1,0,1,0,0,0,1,1]=.exit 0:=by kernel_rfl
theorem k57_19:P57 [1,1,1]=.seq (P57 [1,1,1,0]) (P57 [1,1,1,1]):=by kernel_rfl
theorem k57_20:P57 [1,1,1,0]=.region 6 (O57 [1,1,1,0]) false:=by kernel_rfl
theorem r57_6 {x7:Int} {M:Mem} {call:CallM} {K:Array Value→Mem→R} :
 opsK Try.prog (fun _=>call) (O57 [1,1,1,0]) (O57 [1,1,1,0]).toList 0 #[g0,g1,g2,g3,g4,g5,g6,.int .u64 x7,g8,g9,gA,gB,gC,gD,gE,gF,gG,gH,gI,gJ,gK,gL,gM,gN,gO,gP,gQ,gR] M K=K #[g0,g1,g2,g3,g4,g5,.int .u64 x7,.int .u64 x7,g8,g9,gA,gB,gC,gD,gE,gF,gG,gH,gI,gJ,gK,gL,gM,gN,gO,gP,gQ,.int .u64 x7] M:=by kernel_rfl
theorem k57_21:P57 [1,1,1,1]=.ret:=by kernel_rfl
theorem e57 {M:Mem}:finish Try.prog Try.f57 #[g0,g1,g2,g3,g4,g5,g6,g7,g8,g9,gA,gB,gC,gD,gE,gF,gG,gH,gI,gJ,gK,gL,gM,gN,gO,gP,gQ,gR] M=some (g6,M):=by kernel_rfl
noncomputable def S57_1:List Item:=[.code (P57 [1,1,0,1,0,0]),.inLoop (P57 [1,1,0,1,0,0]),.inBlock 0,.code (P57 [1,1,1])]
def A57_1 (x0:Option Addr) (x1 x2 x7 x8:Int) (M:Mem) (Q:Value→Mem→Prop):Prop:=∀ (g3 g4 g5 g6 g9 gA gB gC gD gE gF gG gH gI gJ gK gL gM gN gO gP gQ gR:Value),Rn Try.prog Try.f57 S57_1 #[.pointer x0,.int .i64 x1,.int .i64 x2,g3,g4,g5,g6,.int .u64 x7,.int .i64 x8,g9,gA,gB,gC,gD,gE,gF,gG,gH,gI,gJ,gK,gL,gM,gN,gO,gP,gQ,gR] M Q
theorem w57_0 {x0:Option Addr} {x1 x2:Int} {M:Mem} {Q:Value→Mem→Prop} (H :
 A57_1 x0 x1 x2 0 0 M Q):
 Cn Try.prog 57 #[.pointer x0,.int .i64 x1,.int .i64 x2] M Q:=by
  refine Cn.of b57 d57 t57 ?_
  refine Rn.seq k57_0 (Rn.region k57_1 (fun call K=>r57_0) (Rch.leaf (Rn.seq k57_2 (Rn.region k57_3 (fun call K=>r57_1) (Rch.leaf (Rn.seq k57_4 (Rn.seq k57_5 (Rn.region k57_6 (fun call K=>r57_2) (Rch.leaf (Rn.block k57_7 (Rn.loop k57_8 ?_)))))))))))
  exact H ..
theorem w57_1 {x0:Option Addr} {x1 x2 x7 x8:Int} {M:Mem} {Q:Value→Mem→Prop} (H :
 ((x8<x2→
 ∃a1',x0=some a1'∧
 ∃s2',M.slAt a1'.block a1'.off=some s2'∧
 ∃a3',idxA s2'.1 (s2'.2.1) 1 (IntKind.i64.wrap (x1+x8))=some a3'∧
 ∃x4',M.intAt .i64 a3'.block a3'.off=some x4'∧
 A57_1 x0 x1 x2 (IntKind.u64.wrap ((IntKind.u64.wrap (x7*2))+(IntKind.u64.wrap (x4')))) (IntKind.i64.wrap (x8+1)) M Q)∧
 (¬(x8<x2)→
 Q (.int .u64 x7) M))):
 A57_1 x0 x1 x2 x7 x8 M Q:=by
  iterate 23 intro _
  refine Rn.seq k57_9 (Rn.seq k57_10 (Rn.region k57_11 (fun call K=>r57_3) (Rch.leaf ?_)))
  refine Rn.cnd (v:=decide (x8<x2)) ⟨c57_12,rfl,by kernel_rfl⟩ (fun h=>?_) (fun h=>?_)
  · replace H:=H.1 (of_decide_eq_true h)
    refine Rn.skip k57_13 (Rn.seq k57_14 (Rn.block k57_15 (Rn.region k57_16 (fun call K=>r57_5) (Rch.ex H fun a1' H=>Rch.ex H fun s2' H=>Rch.ex H fun a3' H=>Rch.ex H fun x4' H=>Rch.leaf (Rn.blk (Rn.region k57_17 (fun call K=>r57_4) (Rch.leaf ?_)))))))
    refine Rn.lp ?_
    exact H ..
  · replace H:=H.2 (of_decide_eq_false h)
    refine Rn.exit k57_18 rfl (Rn.seq k57_19 (Rn.region k57_20 (fun call K=>r57_6) (Rch.leaf ?_)))
    exact Rn.ret k57_21 e57 H
noncomputable abbrev P55 (p:List Nat):Code:=subC (codeOf Try.f55) p
noncomputable abbrev O55 (p:List Nat):Array Oper:=opsOf (subC (codeOf Try.f55) p)
theorem b55:Try.prog.funcs[55]?=some Try.f55∧(Orc.tab Try.prog).lookup 55=none:=⟨by kernel_rfl,by kernel_rfl⟩
theorem d55:Try.f55.body=some (P55 []):=by kernel_rfl
theorem t55 {x0:Option Addr}:#[.pointer x0] ++ Array.replicate (Try.f55.ntmps-(#[.pointer x0]:Array Value).size) undef=#[.pointer x0,undef,undef,undef,undef,undef,undef,undef,undef,undef,undef]:=by kernel_rfl
theorem k55_0:P55 []=.seq (P55 [0]) (P55 [1]):=by kernel_rfl
theorem k55_1:P55 [0]=.region 0 (O55 [0]) false:=by kernel_rfl
theorem r55_0 {M:Mem} {call:CallM} {K:Array Value→Mem→R} :
 opsK Try.prog (fun _=>call) (O55 [0]) (O55 [0]).toList 0 #[g0,g1,g2,g3,g4,g5,g6,g7,g8,g9,gA] M K=K #[g0,g1,.bool false,g3,g4,g5,g6,g7,g8,g9,gA] M:=by kernel_rfl
theorem k55_2:P55 [1]=.seq (P55 [1,0]) (P55 [1,1]):=by kernel_rfl
theorem k55_3:P55 [1,0]=.region 1 (O55 [1,0]) false:=by kernel_rfl
theorem r55_1 {x0:Option Addr} {M:Mem} {call:CallM} {K:Array Value→Mem→R} :
 opsK Try.prog (fun _=>call) (O55 [1,0]) (O55 [1,0]).toList 0 #[.pointer x0,g1,g2,g3,g4,g5,g6,g7,g8,g9,gA] M K=withK (fun w2 w5 w6 w7 w8 w9 w10 M=>K #[.pointer x0,g1,w2,.pointer x0,.bool x0.isSome,w5,w6,w7,w8,w9,w10] M) fun k=>cond x0.isSome ((x0).bind fun a_1=>(M.boolAt a_1.block (a_1.off+2)).bind fun b_2=>k (.bool b_2) (.bool true) (.pointer x0) (.pointer (some a_1)) (.pointer (some ⟨a_1.block,a_1.off+2,none⟩)) (.bool b_2) (.bool b_2) M) (k (.bool false) (.bool false) undef undef undef undef (.bool false) M):=by kernel_rfl
theorem k55_4:P55 [1,1]=.ret:=by kernel_rfl
theorem e55 {M:Mem}:finish Try.prog Try.f55 #[g0,g1,g2,g3,g4,g5,g6,g7,g8,g9,gA] M=some (g2,M):=by kernel_rfl
theorem w55_0 {x0:Option Addr} {M:Mem} {Q:Value→Mem→Prop} (H :
 ((x0.isSome=true→
 ∃a1',x0=some a1'∧
 ∃b2',M.boolAt a1'.block (a1'.off+2)=some b2'∧
 Q (.bool b2') M)∧
 (x0.isSome=false→
 Q (.bool false) M))):
 Cn Try.prog 55 #[.pointer x0] M Q:=by
  refine Cn.of b55 d55 t55 ?_
  refine Rn.seq k55_0 (Rn.region k55_1 (fun call K=>r55_0) (Rch.leaf (Rn.seq k55_2 (Rn.region k55_3 (fun call K=>r55_1) ?_))))
  refine Rch.cB (fun h=>?_) (fun h=>?_)
  · replace H:=H.1 (h)
    refine Rch.ex H fun a1' H=>Rch.ex H fun b2' H=>Rch.leaf ?_
    exact Rn.ret k55_4 e55 H
  · replace H:=H.2 (h)
    refine Rch.leaf ?_
    exact Rn.ret k55_4 e55 H
noncomputable abbrev P51 (p:List Nat):Code:=subC (codeOf Try.f51) p
noncomputable abbrev O51 (p:List Nat):Array Oper:=opsOf (subC (codeOf Try.f51) p)
theorem b51:Try.prog.funcs[51]?=some Try.f51∧(Orc.tab Try.prog).lookup 51=none:=⟨by kernel_rfl,by kernel_rfl⟩
theorem d51:Try.f51.body=some (P51 []):=by kernel_rfl
theorem t51 {x0:Option Addr}:#[.pointer x0] ++ Array.replicate (Try.f51.ntmps-(#[.pointer x0]:Array Value).size) undef=#[.pointer x0,undef,undef,undef,undef,undef,undef,undef,undef,undef,undef]:=by kernel_rfl
theorem k51_0:P51 []=.seq (P51 [0]) (P51 [1]):=by kernel_rfl
theorem k51_1:P51 [0]=.region 0 (O51 [0]) false:=by kernel_rfl
theorem r51_0 {M:Mem} {call:CallM} {K:Array Value→Mem→R} :
 opsK Try.prog (fun _=>call) (O51 [0]) (O51 [0]).toList 0 #[g0,g1,g2,g3,g4,g5,g6,g7,g8,g9,gA] M K=K #[g0,g1,.bool false,g3,g4,g5,g6,g7,g8,g9,gA] M:=by kernel_rfl
theorem k51_2:P51 [1]=.seq (P51 [1,0]) (P51 [1,1]):=by kernel_rfl
theorem k51_3:P51 [1,0]=.region 1 (O51 [1,0]) false:=by kernel_rfl
theorem r51_1 {x0:Option Addr} {M:Mem} {call:CallM} {K:Array Value→Mem→R} :
 opsK Try.prog (fun _=>call) (O51 [1,0]) (O51 [1,0]).toList 0 #[.pointer x0,g1,g2,g3,g4,g5,g6,g7,g8,g9,gA] M K=withK (fun w2 w5 w6 w7 w8 w9 w10 M=>K #[.pointer x0,g1,w2,.pointer x0,.bool x0.isSome,w5,w6,w7,w8,w9,w10] M) fun k=>cond x0.isSome ((x0).bind fun a_1=>(M.boolAt a_1.block (a_1.off+2)).bind fun b_2=>k (.bool b_2) (.bool true) (.pointer x0) (.pointer (some a_1)) (.pointer (some ⟨a_1.block,a_1.off+2,none⟩)) (.bool b_2) (.bool b_2) M) (k (.bool false) (.bool false) undef undef undef undef (.bool false) M):=by kernel_rfl
theorem k51_4:P51 [1,1]=.ret:=by kernel_rfl
theorem e51 {M:Mem}:finish Try.prog Try.f51 #[g0,g1,g2,g3,g4,g5,g6,g7,g8,g9,gA] M=some (g2,M):=by kernel_rfl
theorem w51_0 {x0:Option Addr} {M:Mem} {Q:Value→Mem→Prop} (H :
 ((x0.isSome=true→
 ∃a1',x0=some a1'∧
 ∃b2',M.boolAt a1'.block (a1'.off+2)=some b2'∧
 Q (.bool b2') M)∧
 (x0.isSome=false→
 Q (.bool false) M))):
 Cn Try.prog 51 #[.pointer x0] M Q:=by
  refine Cn.of b51 d51 t51 ?_
  refine Rn.seq k51_0 (Rn.region k51_1 (fun call K=>r51_0) (Rch.leaf (Rn.seq k51_2 (Rn.region k51_3 (fun call K=>r51_1) ?_))))
  refine Rch.cB (fun h=>?_) (fun h=>?_)
  · replace H:=H.1 (h)
    refine Rch.ex H fun a1' H=>Rch.ex H fun b2' H=>Rch.leaf ?_
    exact Rn.ret k51_4 e51 H
  · replace H:=H.2 (h)
    refine Rch.leaf ?_
    exact Rn.ret k51_4 e51 H
noncomputable abbrev P56 (p:List Nat):Code:=subC (codeOf Try.f56) p
noncomputable abbrev O56 (p:List Nat):Array Oper:=opsOf (subC (codeOf Try.f56) p)
theorem b56:Try.prog.funcs[56]?=some Try.f56∧(Orc.tab Try.prog).lookup 56=none:=⟨by kernel_rfl,by kernel_rfl⟩
theorem d56:Try.f56.body=some (P56 []):=by kernel_rfl
theorem t56 {Y0:Option Addr} {l0 y0:Nat}:#[.slice Y0 l0 y0] ++ Array.replicate (Try.f56.ntmps-(#[.slice Y0 l0 y0]:Array Value).size) undef=#[.slice Y0 l0 y0,undef,undef,undef,undef,undef,undef,undef,undef,undef,undef,undef,undef,undef,undef,undef,undef,undef,undef,undef,undef,undef,undef,undef,undef,undef,undef,undef,undef,undef,undef,undef]:=by kernel_rfl
theorem k56_0:P56 []=.seq (P56 [0]) (P56 [1]):=by kernel_rfl
theorem k56_1:P56 [0]=.region 0 (O56 [0]) false:=by kernel_rfl
theorem r56_0 {M:Mem} {call:CallM} {K:Array Value→Mem→R} :
 opsK Try.prog (fun _=>call) (O56 [0]) (O56 [0]).toList 0 #[g0,g1,g2,g3,g4,g5,g6,g7,g8,g9,gA,gB,gC,gD,gE,gF,gG,gH,gI,gJ,gK,gL,gM,gN,gO,gP,gQ,gR,gS,gT,gU,gV] M K=K #[g0,g1,.slice none 0 0,g3,g4,g5,g6,g7,g8,g9,gA,gB,gC,gD,gE,gF,gG,gH,gI,gJ,gK,gL,gM,gN,gO,gP,gQ,gR,gS,gT,gU,gV] M:=by kernel_rfl
theorem k56_2:P56 [1]=.seq (P56 [1,0]) (P56 [1,1]):=by kernel_rfl
theorem k56_3:P56 [1,0]=.region 1 (O56 [1,0]) false:=by kernel_rfl
theorem r56_1 {Y0:Option Addr} {l0 y0:Nat} {M:Mem} {call:CallM} {K:Array Value→Mem→R} :
 opsK Try.prog (fun _=>call) (O56 [1,0]) (O56 [1,0]).toList 0 #[.slice Y0 l0 y0,g1,g2,g3,g4,g5,g6,g7,g8,g9,gA,gB,gC,gD,gE,gF,gG,gH,gI,gJ,gK,gL,gM,gN,gO,gP,gQ,gR,gS,gT,gU,gV] M K=(makeP Try.prog 22 (.int .i64 0) (.int .i64 (IntKind.i64.wrap (8*((l0:Int))))) M).bind fun r_1=>(asS r_1.1).bind fun s_2=>K #[.slice Y0 l0 y0,g1,g2,.slice s_2.1 (s_2.2.1) (s_2.2.2),g4,g5,.slice Y0 l0 y0,.int .i64 ((l0:Int)),.int .i64 (IntKind.i64.wrap (8*((l0:Int)))),.slice s_2.1 (s_2.2.1) (s_2.2.2),gA,gB,gC,gD,gE,gF,gG,gH,gI,gJ,gK,gL,gM,gN,gO,gP,gQ,gR,gS,gT,gU,gV] r_1.2:=by kernel_rfl
theorem k56_4:P56 [1,1]=.seq (P56 [1,1,0]) (P56 [1,1,1]):=by kernel_rfl
theorem k56_5:P56 [1,1,0]=.seq (P56 [1,1,0,0]) (P56 [1,1,0,1]):=by kernel_rfl
theorem k56_6:P56 [1,1,0,0]=.region 2 (O56 [1,1,0,0]) false:=by kernel_rfl
theorem r56_2 {M:Mem} {call:CallM} {K:Array Value→Mem→R} :
 opsK Try.prog (fun _=>call) (O56 [1,1,0,0]) (O56 [1,1,0,0]).toList 0 #[g0,g1,g2,g3,g4,g5,g6,g7,g8,g9,gA,gB,gC,gD,gE,gF,gG,gH,gI,gJ,gK,gL,gM,gN,gO,gP,gQ,gR,gS,gT,gU,gV] M K=K #[g0,g1,g2,g3,.int .i64 0,g5,g6,g7,g8,g9,gA,gB,gC,gD,gE,gF,gG,gH,gI,gJ,gK,gL,gM,gN,gO,gP,gQ,gR,gS,gT,gU,gV] M:=by kernel_rfl
theorem k56_7:P56 [1,1,0,1]=.block 0 (P56 [1,1,0,1,0]):=by kernel_rfl
theorem k56_8:P56 [1,1,0,1,0]=.loop (P56 [1,1,0,1,0,0]):=by kernel_rfl
theorem k56_9:P56 [1,1,0,1,0,0]=.seq (P56 [1,1,0,1,0,0,0]) (P56 [1,1,0,1,0,0,1]):=by kernel_rfl
theorem k56_10:P56 [1,1,0,1,0,0,0]=.seq (P56 [1,1,0,1,0,0,0,0]) (P56 [1,1,0,1,0,0,0,1]):=by kernel_rfl
theorem k56_11:P56 [1,1,0,1,0,0,0,0]=.region 3 (O56 [1,1,0,1,0,0,0,0]) false:=by kernel_rfl
theorem r56_3 {Y0:Option Addr} {l0 y0:Nat} {x4:Int} {M:Mem} {call:CallM} {K:Array Value→Mem→R} :
 opsK Try.prog (fun _=>call) (O56 [1,1,0,1,0,0,0,0]) (O56 [1,1,0,1,0,0,0,0]).toList 0 #[.slice Y0 l0 y0,g1,g2,g3,.int .i64 x4,g5,g6,g7,g8,g9,gA,gB,gC,gD,gE,gF,gG,gH,gI,gJ,gK,gL,gM,gN,gO,gP,gQ,gR,gS,gT,gU,gV] M K=K #[.slice Y0 l0 y0,g1,g2,g3,.int .i64 x4,g5,g6,g7,g8,g9,.int .i64 x4,.slice Y0 l0 y0,.int .i64 ((l0:Int)),.bool (decide (x4<((l0:Int)))),gE,gF,gG,gH,gI,gJ,gK,gL,gM,gN,gO,gP,gQ,gR,gS,gT,gU,gV] M:=by kernel_rfl
theorem c56_12:P56 [1,1,0,1,0,0,0,1]=.cond (.tmp 13) (P56 [1,1,0,1,0,0,0,1,0]) (P56 [1,1,0,1,0,0,0,1,1]):=by kernel_rfl
theorem k56_13:P56 [1,1,0,1,0,0,0,1,0]=.skip:=by kernel_rfl
theorem k56_14:P56 [1,1,0,1,0,0,1]=.seq (P56 [1,1,0,1,0,0,1,0]) (P56 [1,1,0,1,0,0,1,1]):=by kernel_rfl
theorem k56_15:P56 [1,1,0,1,0,0,1,0]=.block 1 (P56 [1,1,0,1,0,0,1,0,0]):=by kernel_rfl
theorem k56_16:P56 [1,1,0,1,0,0,1,0,0]=.seq (P56 [1,1,0,1,0,0,1,0,0,0]) (P56 [1,1,0,1,0,0,1,0,0,1]):=by kernel_rfl
theorem k56_17:P56 [1,1,0,1,0,0,1,0,0,0]=.region 5 (O56 [1,1,0,1,0,0,1,0,0,0]) false:=by kernel_rfl
theorem r56_5 {M:Mem} {call:CallM} {K:Array Value→Mem→R} :
 opsK Try.prog (fun _=>call) (O56 [1,1,0,1,0,0,1,0,0,0]) (O56 [1,1,0,1,0,0,1,0,0,0]).toList 0 #[g0,g1,g2,g3,g4,g5,g6,g7,g8,g9,gA,gB,gC,gD,gE,gF,gG,gH,gI,gJ,gK,gL,gM,gN,gO,gP,gQ,gR,gS,gT,gU,gV] M K=K #[g0,g1,g2,g3,g4,.int .i64 7,g6,g7,g8,g9,gA,gB,gC,gD,gE,gF,gG,gH,gI,gJ,gK,gL,gM,gN,gO,gP,gQ,gR,gS,gT,gU,gV] M:=by kernel_rfl
theorem k56_18:P56 [1,1,0,1,0,0,1,0,0,1]=.block 2 (P56 [1,1,0,1,0,0,1,0,0,1,0]):=by kernel_rfl
theorem k56_19:P56 [1,1,0,1,0,0,1,0,0,1,0]=.loop (P56 [1,1,0,1,0,0,1,0,0,1,0,0]):=by kernel_rfl
theorem k56_20:P56 [1,1,0,1,0,0,0,1,1]=.exit 0:=by kernel_rfl
theorem k56_21:P56 [1,1,1]=.seq (P56 [1,1,1,0]) (P56 [1,1,1,1]):=by kernel_rfl
theorem k56_22:P56 [1,1,1,0]=.region 9 (O56 [1,1,1,0]) false:=by kernel_rfl
theorem r56_9 {Y3:Option Addr} {l3 y3:Nat} {M:Mem} {call:CallM} {K:Array Value→Mem→R} :
 opsK Try.prog (fun _=>call) (O56 [1,1,1,0]) (O56 [1,1,1,0]).toList 0 #[g0,g1,g2,.slice Y3 l3 y3,g4,g5,g6,g7,g8,g9,gA,gB,gC,gD,gE,gF,gG,gH,gI,gJ,gK,gL,gM,gN,gO,gP,gQ,gR,gS,gT,gU,gV] M K=K #[g0,g1,.slice Y3 l3 y3,.slice Y3 l3 y3,g4,g5,g6,g7,g8,g9,gA,gB,gC,gD,gE,gF,gG,gH,gI,gJ,gK,gL,gM,gN,gO,gP,gQ,gR,gS,gT,gU,.slice Y3 l3 y3] M:=by kernel_rfl
theorem k56_23:P56 [1,1,1,1]=.ret:=by kernel_rfl
theorem e56 {M:Mem}:finish Try.prog Try.f56 #[g0,g1,g2,g3,g4,g5,g6,g7,g8,g9,gA,gB,gC,gD,gE,gF,gG,gH,gI,gJ,gK,gL,gM,gN,gO,gP,gQ,gR,gS,gT,gU,gV] M=some (g2,M):=by kernel_rfl
theorem k56_25:P56 [1,1,0,1,0,0,1,0,0,1,0,0]=.seq (P56 [1,1,0,1,0,0,1,0,0,1,0,0,0]) (P56 [1,1,0,1,0,0,1,0,0,1,0,0,1]):=by kernel_rfl
theorem k56_26:P56 [1,1,0,1,0,0,1,0,0,1,0,0,0]=.seq (P56 [1,1,0,1,0,0,1,0,0,1,0,0,0,0]) (P56 [1,1,0,1,0,0,1,0,0,1,0,0,0,1]):=by kernel_rfl
theorem k56_27:P56 [1,1,0,1,0,0,1,0,0,1,0,0,0,0]=.region 6 (O56 [1,1,0,1,0,0,1,0,0,1,0,0,0,0]) false:=by kernel_rfl
theorem r56_6 {x5:Int} {M:Mem} {call:CallM} {K:Array Value→Mem→R} :
 opsK Try.prog (fun _=>call) (O56 [1,1,0,1,0,0,1,0,0,1,0,0,0,0]) (O56 [1,1,0,1,0,0,1,0,0,1,0,0,0,0]).toList 0 #[g0,g1,g2,g3,g4,.int .i64 x5,g6,g7,g8,g9,gA,gB,gC,gD,gE,gF,gG,gH,gI,gJ,gK,gL,gM,gN,gO,gP,gQ,gR,gS,gT,gU,gV] M K=K #[g0,g1,g2,g3,g4,.int .i64 x5,g6,g7,g8,g9,gA,gB,gC,gD,gE,gF,.int .i64 x5,.bool (decide (x5≥0)),gI,gJ,gK,gL,gM,gN,gO,gP,gQ,gR,gS,gT,gU,gV] M:=by kernel_rfl
theorem c56_28:P56 [1,1,0,1,0,0,1,0,0,1,0,0,0,1]=.cond (.tmp 17) (P56 [1,1,0,1,0,0,1,0,0,1,0,0,0,1,0]) (P56 [1,1,0,1,0,0,1,0,0,1,0,0,0,1,1]):=by kernel_rfl
theorem k56_29:P56 [1,1,0,1,0,0,1,0,0,1,0,0,0,1,0]=.skip:=by kernel_rfl
theorem k56_30:P56 [1,1,0,1,0,0,1,0,0,1,0,0,1]=.seq (P56 [1,1,0,1,0,0,1,0,0,1,0,0,1,0]) (P56 [1,1,0,1,0,0,1,0,0,1,0,0,1,1]):=by kernel_rfl
theorem k56_31:P56 [1,1,0,1,0,0,1,0,0,1,0,0,1,0]=.block 3 (P56 [1,1,0,1,0,0,1,0,0,1,0,0,1,0,0]):=by kernel_rfl
theorem k56_32:P56 [1,1,0,1,0,0,1,0,0,1,0,0,1,0,0]=.region 8 (O56 [1,1,0,1,0,0,1,0,0,1,0,0,1,0,0]) false:=by kernel_rfl
theorem r56_8 {Y0:Option Addr} {l0 y0:Nat} {Y3:Option Addr} {l3 y3:Nat} {x4 x5:Int} {M:Mem} {call:CallM} {K:Array Value→Mem→R} :
 opsK Try.prog (fun _=>call) (O56 [1,1,0,1,0,0,1,0,0,1,0,0,1,0,0]) (O56 [1,1,0,1,0,0,1,0,0,1,0,0,1,0,0]).toList 0 #[.slice Y0 l0 y0,g1,g2,.slice Y3 l3 y3,.int .i64 x4,.int .i64 x5,g6,g7,g8,g9,gA,gB,gC,gD,gE,gF,gG,gH,gI,gJ,gK,gL,gM,gN,gO,gP,gQ,gR,gS,gT,gU,gV] M K=(idxA Y0 l0 1 x4).bind fun a_1=>(M.intAt .u8 a_1.block a_1.off).bind fun x_2=>(binV Try.prog .shr 5 3 (.int .u8 x_2) (.int .i64 x5)).bind fun v_3=>(asI .u8 v_3).bind fun x_4=>(appendP Try.prog #[22,22] (.slice Y3 l3 y3) (.slice (some ⟨2*M.nb.size,0,none⟩) 1 1) (M.new (.cells #[.int .i64 ((IntKind.i64.wrap (x_4)).tmod 2)] 3))).bind fun r_5=>(asS r_5.1).bind fun s_6=>K #[.slice Y0 l0 y0,g1,g2,.slice s_6.1 (s_6.2.1) (s_6.2.2),.int .i64 x4,.int .i64 x5,g6,g7,g8,g9,gA,gB,gC,gD,gE,gF,gG,gH,gI,gJ,.slice Y3 l3 y3,.slice Y0 l0 y0,.int .i64 x4,.pointer (some a_1),.int .u8 x_2,.int .i64 x5,.int .u8 x_4,.int .i64 (IntKind.i64.wrap (x_4)),.int .i64 ((IntKind.i64.wrap (x_4)).tmod 2),.slice (some ⟨2*M.nb.size,0,none⟩) 1 1,.slice s_6.1 (s_6.2.1) (s_6.2.2),gV] r_5.2:=by kernel_rfl
theorem k56_33:P56 [1,1,0,1,0,0,1,0,0,1,0,0,1,1]=.region 7 (O56 [1,1,0,1,0,0,1,0,0,1,0,0,1,1]) false:=by kernel_rfl
theorem r56_7 {x5:Int} {M:Mem} {call:CallM} {K:Array Value→Mem→R} :
 opsK Try.prog (fun _=>call) (O56 [1,1,0,1,0,0,1,0,0,1,0,0,1,1]) (O56 [1,1,0,1,0,0,1,0,0,1,0,0,1,1]).toList 0 #[g0,g1,g2,g3,g4,.int .i64 x5,g6,g7,g8,g9,gA,gB,gC,gD,gE,gF,gG,gH,gI,gJ,gK,gL,gM,gN,gO,gP,gQ,gR,gS,gT,gU,gV] M K=K #[g0,g1,g2,g3,g4,.int .i64 (IntKind.i64.wrap (x5-1)),g6,g7,g8,g9,gA,gB,gC,gD,gE,gF,gG,gH,.int .i64 x5,.int .i64 (IntKind.i64.wrap (x5-1)),gK,gL,gM,gN,gO,gP,gQ,gR,gS,gT,gU,gV] M:=by kernel_rfl
theorem k56_34:P56 [1,1,0,1,0,0,1,0,0,1,0,0,0,1,1]=.exit 2:=by kernel_rfl
theorem k56_35:P56 [1,1,0,1,0,0,1,1]=.region 4 (O56 [1,1,0,1,0,0,1,1]) false:=by kernel_rfl
theorem r56_4 {x4:Int} {M:Mem} {call:CallM} {K:Array Value→Mem→R} :
 opsK Try.prog (fun _=>call) (O56 [1,1,0,1,0,0,1,1]) (O56 [1,1,0,1,0,0,1,1]).toList 0 #[g0,g1,g2,g3,.int .i64 x4,g5,g6,g7,g8,g9,gA,gB,gC,gD,gE,gF,gG,gH,gI,gJ,gK,gL,gM,gN,gO,gP,gQ,gR,gS,gT,gU,gV] M K=K #[g0,g1,g2,g3,.int .i64 (IntKind.i64.wrap (x4+1)),g5,g6,g7,g8,g9,gA,gB,gC,gD,.int .i64 x4,.int .i64 (IntKind.i64.wrap (x4+1)),gG,gH,gI,gJ,gK,gL,gM,gN,gO,gP,gQ,gR,gS,gT,gU,gV] M:=by kernel_rfl
noncomputable def S56_1:List Item:=[.code (P56 [1,1,0,1,0,0]),.inLoop (P56 [1,1,0,1,0,0]),.inBlock 0,.code (P56 [1,1,1])]
def A56_1 (Y0:Option Addr) (l0 y0:Nat) (Y3:Option Addr) (l3 y3:Nat) (x4:Int) (M:Mem) (Q:Value→Mem→Prop):Prop:=∀ (g1 g2 g5 g6 g7 g8 g9 gA gB gC gD gE gF gG gH gI gJ gK gL gM gN gO gP gQ gR gS gT gU gV:Value),Rn Try.prog Try.f56 S56_1 #[.slice Y0 l0 y0,g1,g2,.slice Y3 l3 y3,.int .i64 x4,g5,g6,g7,g8,g9,gA,gB,gC,gD,gE,gF,gG,gH,gI,gJ,gK,gL,gM,gN,gO,gP,gQ,gR,gS,gT,gU,gV] M Q
noncomputable def S56_2:List Item:=[.code (P56 [1,1,0,1,0,0,1,0,0,1,0,0]),.inLoop (P56 [1,1,0,1,0,0,1,0,0,1,0,0]),.inBlock 2,.inBlock 1,.code (P56 [1,1,0,1,0,0,1,1]),.inLoop (P56 [1,1,0,1,0,0]),.inBlock 0,.code (P56 [1,1,1])]
def A56_2 (Y0:Option Addr) (l0 y0:Nat) (Y3:Option Addr) (l3 y3:Nat) (x4 x5:Int) (M:Mem) (Q:Value→Mem→Prop):Prop:=∀ (g1 g2 g6 g7 g8 g9 gA gB gC gD gE gF gG gH gI gJ gK gL gM gN gO gP gQ gR gS gT gU gV:Value),Rn Try.prog Try.f56 S56_2 #[.slice Y0 l0 y0,g1,g2,.slice Y3 l3 y3,.int .i64 x4,.int .i64 x5,g6,g7,g8,g9,gA,gB,gC,gD,gE,gF,gG,gH,gI,gJ,gK,gL,gM,gN,gO,gP,gQ,gR,gS,gT,gU,gV] M Q
theorem w56_0 {Y0:Option Addr} {l0 y0:Nat} {M:Mem} {Q:Value→Mem→Prop} (H :
 ∃r1',makeP Try.prog 22 (.int .i64 0) (.int .i64 (IntKind.i64.wrap (8*((l0:Int))))) M=some r1'∧
 ∃s2',asS r1'.1=some s2'∧
 A56_1 Y0 l0 y0 s2'.1 s2'.2.1 s2'.2.2 0 r1'.2 Q):
 Cn Try.prog 56 #[.slice Y0 l0 y0] M Q:=by
  refine Cn.of b56 d56 t56 ?_
  refine Rn.seq k56_0 (Rn.region k56_1 (fun call K=>r56_0) (Rch.leaf (Rn.seq k56_2 (Rn.region k56_3 (fun call K=>r56_1) (Rch.ex H fun r1' H=>Rch.ex H fun s2' H=>Rch.leaf (Rn.seq k56_4 (Rn.seq k56_5 (Rn.region k56_6 (fun call K=>r56_2) (Rch.leaf ?_)))))))))
  refine Rn.block k56_7 (Rn.loop k56_8 ?_)
  exact H ..
theorem w56_1 {Y0:Option Addr} {l0 y0:Nat} {Y3:Option Addr} {l3 y3:Nat} {x4:Int} {M:Mem} {Q:Value→Mem→Prop} (H :
 ((x4<((l0:Int))→
 A56_2 Y0 l0 y0 Y3 l3 y3 x4 7 M Q)∧
 (¬(x4<((l0:Int)))→
 Q (.slice Y3 l3 y3) M))):
 A56_1 Y0 l0 y0 Y3 l3 y3 x4 M Q:=by
  iterate 29 intro _
  refine Rn.seq k56_9 (Rn.seq k56_10 (Rn.region k56_11 (fun call K=>r56_3) (Rch.leaf ?_)))
  refine Rn.cnd (v:=decide (x4<((l0:Int)))) ⟨c56_12,rfl,by kernel_rfl⟩ (fun h=>?_) (fun h=>?_)
  · replace H:=H.1 (of_decide_eq_true h)
    refine Rn.skip k56_13 (Rn.seq k56_14 (Rn.block k56_15 (Rn.seq k56_16 (Rn.region k56_17 (fun call K=>r56_5) (Rch.leaf (Rn.block k56_18 (Rn.loop k56_19 ?_)))))))
    exact H ..
  · replace H:=H.2 (of_decide_eq_false h)
    refine Rn.exit k56_20 rfl (Rn.seq k56_21 (Rn.region k56_22 (fun call K=>r56_9) (Rch.leaf ?_)))
    exact Rn.ret k56_23 e56 H
theorem w56_2 {Y0:Option Addr} {l0 y0:Nat} {Y3:Option Addr} {l3 y3:Nat} {x4 x5:Int} {M:Mem} {Q:Value→Mem→Prop} (H :
 ((x5≥0→
 ∃a3',idxA Y0 l0 1 x4=some a3'∧
 ∃x4',M.intAt .u8 a3'.block a3'.off=some x4'∧
 ∃v5',binV Try.prog .shr 5 3 (.int .u8 x4') (.int .i64 x5)=some v5'∧
 ∃x6',asI .u8 v5'=some x6'∧
 ∃r7',appendP Try.prog #[22,22] (.slice Y3 l3 y3) (.slice (some ⟨2*M.nb.size,0,none⟩) 1 1) (M.new (.cells #[.int .i64 ((IntKind.i64.wrap (x6')).tmod 2)] 3))=some r7'∧
 ∃s8',asS r7'.1=some s8'∧
 A56_2 Y0 l0 y0 s8'.1 s8'.2.1 s8'.2.2 x4 (IntKind.i64.wrap (x5-1)) r7'.2 Q)∧
 (¬(x5≥0)→
 A56_1 Y0 l0 y0 Y3 l3 y3 (IntKind.i64.wrap (x4+1)) M Q))):
 A56_2 Y0 l0 y0 Y3 l3 y3 x4 x5 M Q:=by
  iterate 28 intro _
  refine Rn.seq k56_25 (Rn.seq k56_26 (Rn.region k56_27 (fun call K=>r56_6) (Rch.leaf ?_)))
  refine Rn.cnd (v:=decide (x5≥0)) ⟨c56_28,rfl,by kernel_rfl⟩ (fun h=>?_) (fun h=>?_)
  · replace H:=H.1 (of_decide_eq_true h)
    refine Rn.skip k56_29 (Rn.seq k56_30 (Rn.block k56_31 (Rn.region k56_32 (fun call K=>r56_8) (Rch.ex H fun a3' H=>Rch.ex H fun x4' H=>Rch.ex H fun v5' H=>Rch.ex H fun x6' H=>Rch.ex H fun r7' H=>Rch.ex H fun s8' H=>Rch.leaf (Rn.blk ?_)))))
    refine Rn.region k56_33 (fun call K=>r56_7) (Rch.leaf (Rn.lp ?_))
    exact H ..
  · replace H:=H.2 (of_decide_eq_false h)
    refine Rn.exit k56_34 rfl (Rn.blk (Rn.region k56_35 (fun call K=>r56_4) (Rch.leaf (Rn.lp ?_))))
    exact H ..
noncomputable abbrev P54 (p:List Nat):Code:=subC (codeOf Try.f54) p
noncomputable abbrev O54 (p:List Nat):Array Oper:=opsOf (subC (codeOf Try.f54) p)
theorem b54:Try.prog.funcs[54]?=some Try.f54∧(Orc.tab Try.prog).lookup 54=none:=⟨by kernel_rfl,by kernel_rfl⟩
theorem d54:Try.f54.body=some (P54 []):=by kernel_rfl
theorem t54 {Y0:Option Addr} {l0 y0:Nat}:#[.slice Y0 l0 y0] ++ Array.replicate (Try.f54.ntmps-(#[.slice Y0 l0 y0]:Array Value).size) undef=#[.slice Y0 l0 y0,undef,undef,undef,undef,undef,undef,undef,undef,undef,undef,undef,undef,undef,undef,undef,undef,undef,undef,undef,undef,undef,undef,undef,undef,undef,undef,undef,undef,undef,undef,undef,undef,undef,undef,undef,undef,undef,undef]:=by kernel_rfl
theorem k54_0:P54 []=.seq (P54 [0]) (P54 [1]):=by kernel_rfl
theorem k54_1:P54 [0]=.region 0 (O54 [0]) false:=by kernel_rfl
theorem r54_0 {M:Mem} {call:CallM} {K:Array Value→Mem→R} :
 opsK Try.prog (fun _=>call) (O54 [0]) (O54 [0]).toList 0 #[g0,g1,g2,g3,g4,g5,g6,g7,g8,g9,gA,gB,gC,gD,gE,gF,gG,gH,gI,gJ,gK,gL,gM,gN,gO,gP,gQ,gR,gS,gT,gU,gV,gW,gX,gY,gZ,hA,hB,hC] M K=K #[g0,g1,.slice none 0 0,g3,g4,g5,g6,g7,g8,g9,gA,gB,gC,gD,gE,gF,gG,gH,gI,gJ,gK,gL,gM,gN,gO,gP,gQ,gR,gS,gT,gU,gV,gW,gX,gY,gZ,hA,hB,hC] M:=by kernel_rfl
theorem k54_2:P54 [1]=.seq (P54 [1,0]) (P54 [1,1]):=by kernel_rfl
theorem k54_3:P54 [1,0]=.region 1 (O54 [1,0]) false:=by kernel_rfl
theorem r54_1 {M:Mem} {call:CallM} {K:Array Value→Mem→R} :
 opsK Try.prog (fun _=>call) (O54 [1,0]) (O54 [1,0]).toList 0 #[g0,g1,g2,g3,g4,g5,g6,g7,g8,g9,gA,gB,gC,gD,gE,gF,gG,gH,gI,gJ,gK,gL,gM,gN,gO,gP,gQ,gR,gS,gT,gU,gV,gW,gX,gY,gZ,hA,hB,hC] M K=K #[g0,g1,g2,.slice none 0 0,g4,g5,g6,g7,g8,g9,gA,gB,gC,gD,gE,gF,gG,gH,gI,gJ,gK,gL,gM,gN,gO,gP,gQ,gR,gS,gT,gU,gV,gW,gX,gY,gZ,hA,hB,hC] M:=by kernel_rfl
theorem k54_4:P54 [1,1]=.seq (P54 [1,1,0]) (P54 [1,1,1]):=by kernel_rfl
theorem k54_5:P54 [1,1,0]=.seq (P54 [1,1,0,0]) (P54 [1,1,0,1]):=by kernel_rfl
theorem k54_6:P54 [1,1,0,0]=.region 2 (O54 [1,1,0,0]) false:=by kernel_rfl
theorem r54_2 {M:Mem} {call:CallM} {K:Array Value→Mem→R} :
 opsK Try.prog (fun _=>call) (O54 [1,1,0,0]) (O54 [1,1,0,0]).toList 0 #[g0,g1,g2,g3,g4,g5,g6,g7,g8,g9,gA,gB,gC,gD,gE,gF,gG,gH,gI,gJ,gK,gL,gM,gN,gO,gP,gQ,gR,gS,gT,gU,gV,gW,gX,gY,gZ,hA,hB,hC] M K=K #[g0,g1,g2,g3,.int .i64 0,g5,g6,g7,g8,g9,gA,gB,gC,gD,gE,gF,gG,gH,gI,gJ,gK,gL,gM,gN,gO,gP,gQ,gR,gS,gT,gU,gV,gW,gX,gY,gZ,hA,hB,hC] M:=by kernel_rfl
theorem k54_7:P54 [1,1,0,1]=.block 0 (P54 [1,1,0,1,0]):=by kernel_rfl
theorem k54_8:P54 [1,1,0,1,0]=.loop (P54 [1,1,0,1,0,0]):=by kernel_rfl
theorem k54_9:P54 [1,1,0,1,0,0]=.seq (P54 [1,1,0,1,0,0,0]) (P54 [1,1,0,1,0,0,1]):=by kernel_rfl
theorem k54_10:P54 [1,1,0,1,0,0,0]=.seq (P54 [1,1,0,1,0,0,0,0]) (P54 [1,1,0,1,0,0,0,1]):=by kernel_rfl
theorem k54_11:P54 [1,1,0,1,0,0,0,0]=.region 3 (O54 [1,1,0,1,0,0,0,0]) false:=by kernel_rfl
theorem r54_3 {Y0:Option Addr} {l0 y0:Nat} {x4:Int} {M:Mem} {call:CallM} {K:Array Value→Mem→R} :
 opsK Try.prog (fun _=>call) (O54 [1,1,0,1,0,0,0,0]) (O54 [1,1,0,1,0,0,0,0]).toList 0 #[.slice Y0 l0 y0,g1,g2,g3,.int .i64 x4,g5,g6,g7,g8,g9,gA,gB,gC,gD,gE,gF,gG,gH,gI,gJ,gK,gL,gM,gN,gO,gP,gQ,gR,gS,gT,gU,gV,gW,gX,gY,gZ,hA,hB,hC] M K=K #[.slice Y0 l0 y0,g1,g2,g3,.int .i64 x4,g5,g6,.int .i64 x4,.slice Y0 l0 y0,.int .i64 ((l0:Int)),.bool (decide (x4<((l0:Int)))),gB,gC,gD,gE,gF,gG,gH,gI,gJ,gK,gL,gM,gN,gO,gP,gQ,gR,gS,gT,gU,gV,gW,gX,gY,gZ,hA,hB,hC] M:=by kernel_rfl
theorem c54_12:P54 [1,1,0,1,0,0,0,1]=.cond (.tmp 10) (P54 [1,1,0,1,0,0,0,1,0]) (P54 [1,1,0,1,0,0,0,1,1]):=by kernel_rfl
theorem k54_13:P54 [1,1,0,1,0,0,0,1,0]=.skip:=by kernel_rfl
theorem k54_14:P54 [1,1,0,1,0,0,1]=.seq (P54 [1,1,0,1,0,0,1,0]) (P54 [1,1,0,1,0,0,1,1]):=by kernel_rfl
theorem k54_15:P54 [1,1,0,1,0,0,1,0]=.block 1 (P54 [1,1,0,1,0,0,1,0,0]):=by kernel_rfl
theorem k54_16:P54 [1,1,0,1,0,0,1,0,0]=.seq (P54 [1,1,0,1,0,0,1,0,0,0]) (P54 [1,1,0,1,0,0,1,0,0,1]):=by kernel_rfl
theorem k54_17:P54 [1,1,0,1,0,0,1,0,0,0]=.region 5 (O54 [1,1,0,1,0,0,1,0,0,0]) false:=by kernel_rfl
theorem r54_5 {M:Mem} {call:CallM} {K:Array Value→Mem→R} :
 opsK Try.prog (fun _=>call) (O54 [1,1,0,1,0,0,1,0,0,0]) (O54 [1,1,0,1,0,0,1,0,0,0]).toList 0 #[g0,g1,g2,g3,g4,g5,g6,g7,g8,g9,gA,gB,gC,gD,gE,gF,gG,gH,gI,gJ,gK,gL,gM,gN,gO,gP,gQ,gR,gS,gT,gU,gV,gW,gX,gY,gZ,hA,hB,hC] M K=K #[g0,g1,g2,g3,g4,.int .i64 0,g6,g7,g8,g9,gA,gB,gC,gD,gE,gF,gG,gH,gI,gJ,gK,gL,gM,gN,gO,gP,gQ,gR,gS,gT,gU,gV,gW,gX,gY,gZ,hA,hB,hC] M:=by kernel_rfl
theorem k54_18:P54 [1,1,0,1,0,0,1,0,0,1]=.seq (P54 [1,1,0,1,0,0,1,0,0,1,0]) (P54 [1,1,0,1,0,0,1,0,0,1,1]):=by kernel_rfl
theorem k54_19:P54 [1,1,0,1,0,0,1,0,0,1,0]=.seq (P54 [1,1,0,1,0,0,1,0,0,1,0,0]) (P54 [1,1,0,1,0,0,1,0,0,1,0,1]):=by kernel_rfl
theorem k54_20:P54 [1,1,0,1,0,0,1,0,0,1,0,0]=.region 6 (O54 [1,1,0,1,0,0,1,0,0,1,0,0]) false:=by kernel_rfl
theorem r54_6 {M:Mem} {call:CallM} {K:Array Value→Mem→R} :
 opsK Try.prog (fun _=>call) (O54 [1,1,0,1,0,0,1,0,0,1,0,0]) (O54 [1,1,0,1,0,0,1,0,0,1,0,0]).toList 0 #[g0,g1,g2,g3,g4,g5,g6,g7,g8,g9,gA,gB,gC,gD,gE,gF,gG,gH,gI,gJ,gK,gL,gM,gN,gO,gP,gQ,gR,gS,gT,gU,gV,gW,gX,gY,gZ,hA,hB,hC] M K=K #[g0,g1,g2,g3,g4,g5,.int .i64 0,g7,g8,g9,gA,gB,gC,gD,gE,gF,gG,gH,gI,gJ,gK,gL,gM,gN,gO,gP,gQ,gR,gS,gT,gU,gV,gW,gX,gY,gZ,hA,hB,hC] M:=by kernel_rfl
theorem k54_21:P54 [1,1,0,1,0,0,1,0,0,1,0,1]=.block 2 (P54 [1,1,0,1,0,0,1,0,0,1,0,1,0]):=by kernel_rfl
theorem k54_22:P54 [1,1,0,1,0,0,1,0,0,1,0,1,0]=.loop (P54 [1,1,0,1,0,0,1,0,0,1,0,1,0,0]):=by kernel_rfl
theorem k54_23:P54 [1,1,0,1,0,0,0,1,1]=.exit 0:=by kernel_rfl
theorem k54_24:P54 [1,1,1]=.seq (P54 [1,1,1,0]) (P54 [1,1,1,1]):=by kernel_rfl
theorem k54_25:P54 [1,1,1,0]=.region 13 (O54 [1,1,1,0]) false:=by kernel_rfl
theorem r54_13 {Y3:Option Addr} {l3 y3:Nat} {M:Mem} {call:CallM} {K:Array Value→Mem→R} :
 opsK Try.prog (fun _=>call) (O54 [1,1,1,0]) (O54 [1,1,1,0]).toList 0 #[g0,g1,g2,.slice Y3 l3 y3,g4,g5,g6,g7,g8,g9,gA,gB,gC,gD,gE,gF,gG,gH,gI,gJ,gK,gL,gM,gN,gO,gP,gQ,gR,gS,gT,gU,gV,gW,gX,gY,gZ,hA,hB,hC] M K=K #[g0,g1,.slice Y3 l3 y3,.slice Y3 l3 y3,g4,g5,g6,g7,g8,g9,gA,gB,gC,gD,gE,gF,gG,gH,gI,gJ,gK,gL,gM,gN,gO,gP,gQ,gR,gS,gT,gU,gV,gW,gX,gY,gZ,hA,hB,.slice Y3 l3 y3] M:=by kernel_rfl
theorem k54_26:P54 [1,1,1,1]=.ret:=by kernel_rfl
theorem e54 {M:Mem}:finish Try.prog Try.f54 #[g0,g1,g2,g3,g4,g5,g6,g7,g8,g9,gA,gB,gC,gD,gE,gF,gG,gH,gI,gJ,gK,gL,gM,gN,gO,gP,gQ,gR,gS,gT,gU,gV,gW,gX,gY,gZ,hA,hB,hC] M=some (g2,M):=by kernel_rfl
theorem k54_28:P54 [1,1,0,1,0,0,1,0,0,1,0,1,0,0]=.seq (P54 [1,1,0,1,0,0,1,0,0,1,0,1,0,0,0]) (P54 [1,1,0,1,0,0,1,0,0,1,0,1,0,0,1]):=by kernel_rfl
theorem k54_29:P54 [1,1,0,1,0,0,1,0,0,1,0,1,0,0,0]=.seq (P54 [1,1,0,1,0,0,1,0,0,1,0,1,0,0,0,0]) (P54 [1,1,0,1,0,0,1,0,0,1,0,1,0,0,0,1]):=by kernel_rfl
theorem k54_30:P54 [1,1,0,1,0,0,1,0,0,1,0,1,0,0,0,0]=.region 7 (O54 [1,1,0,1,0,0,1,0,0,1,0,1,0,0,0,0]) false:=by kernel_rfl
theorem r54_7 {x6:Int} {M:Mem} {call:CallM} {K:Array Value→Mem→R} :
 opsK Try.prog (fun _=>call) (O54 [1,1,0,1,0,0,1,0,0,1,0,1,0,0,0,0]) (O54 [1,1,0,1,0,0,1,0,0,1,0,1,0,0,0,0]).toList 0 #[g0,g1,g2,g3,g4,g5,.int .i64 x6,g7,g8,g9,gA,gB,gC,gD,gE,gF,gG,gH,gI,gJ,gK,gL,gM,gN,gO,gP,gQ,gR,gS,gT,gU,gV,gW,gX,gY,gZ,hA,hB,hC] M K=K #[g0,g1,g2,g3,g4,g5,.int .i64 x6,g7,g8,g9,gA,gB,gC,.int .i64 x6,.bool (decide (x6<8)),gF,gG,gH,gI,gJ,gK,gL,gM,gN,gO,gP,gQ,gR,gS,gT,gU,gV,gW,gX,gY,gZ,hA,hB,hC] M:=by kernel_rfl
theorem c54_31:P54 [1,1,0,1,0,0,1,0,0,1,0,1,0,0,0,1]=.cond (.tmp 14) (P54 [1,1,0,1,0,0,1,0,0,1,0,1,0,0,0,1,0]) (P54 [1,1,0,1,0,0,1,0,0,1,0,1,0,0,0,1,1]):=by kernel_rfl
theorem k54_32:P54 [1,1,0,1,0,0,1,0,0,1,0,1,0,0,0,1,0]=.skip:=by kernel_rfl
theorem k54_33:P54 [1,1,0,1,0,0,1,0,0,1,0,1,0,0,1]=.seq (P54 [1,1,0,1,0,0,1,0,0,1,0,1,0,0,1,0]) (P54 [1,1,0,1,0,0,1,0,0,1,0,1,0,0,1,1]):=by kernel_rfl
theorem k54_34:P54 [1,1,0,1,0,0,1,0,0,1,0,1,0,0,1,0]=.block 3 (P54 [1,1,0,1,0,0,1,0,0,1,0,1,0,0,1,0,0]):=by kernel_rfl
theorem k54_35:P54 [1,1,0,1,0,0,1,0,0,1,0,1,0,0,1,0,0]=.seq (P54 [1,1,0,1,0,0,1,0,0,1,0,1,0,0,1,0,0,0]) (P54 [1,1,0,1,0,0,1,0,0,1,0,1,0,0,1,0,0,1]):=by kernel_rfl
theorem k54_36:P54 [1,1,0,1,0,0,1,0,0,1,0,1,0,0,1,0,0,0]=.region 9 (O54 [1,1,0,1,0,0,1,0,0,1,0,1,0,0,1,0,0,0]) false:=by kernel_rfl
theorem r54_9 {x5:Int} {M:Mem} {call:CallM} {K:Array Value→Mem→R} :
 opsK Try.prog (fun _=>call) (O54 [1,1,0,1,0,0,1,0,0,1,0,1,0,0,1,0,0,0]) (O54 [1,1,0,1,0,0,1,0,0,1,0,1,0,0,1,0,0,0]).toList 0 #[g0,g1,g2,g3,g4,.int .i64 x5,g6,g7,g8,g9,gA,gB,gC,gD,gE,gF,gG,gH,gI,gJ,gK,gL,gM,gN,gO,gP,gQ,gR,gS,gT,gU,gV,gW,gX,gY,gZ,hA,hB,hC] M K=K #[g0,g1,g2,g3,g4,.int .i64 (IntKind.i64.wrap (x5*2)),g6,g7,g8,g9,gA,gB,gC,gD,gE,gF,gG,.int .i64 x5,.int .i64 (IntKind.i64.wrap (x5*2)),gJ,gK,gL,gM,gN,gO,gP,gQ,gR,gS,gT,gU,gV,gW,gX,gY,gZ,hA,hB,hC] M:=by kernel_rfl
theorem k54_37:P54 [1,1,0,1,0,0,1,0,0,1,0,1,0,0,1,0,0,1]=.seq (P54 [1,1,0,1,0,0,1,0,0,1,0,1,0,0,1,0,0,1,0]) (P54 [1,1,0,1,0,0,1,0,0,1,0,1,0,0,1,0,0,1,1]):=by kernel_rfl
theorem k54_38:P54 [1,1,0,1,0,0,1,0,0,1,0,1,0,0,1,0,0,1,0]=.region 10 (O54 [1,1,0,1,0,0,1,0,0,1,0,1,0,0,1,0,0,1,0]) false:=by kernel_rfl
theorem r54_10 {Y0:Option Addr} {l0 y0:Nat} {x4 x6:Int} {M:Mem} {call:CallM} {K:Array Value→Mem→R} :
 opsK Try.prog (fun _=>call) (O54 [1,1,0,1,0,0,1,0,0,1,0,1,0,0,1,0,0,1,0]) (O54 [1,1,0,1,0,0,1,0,0,1,0,1,0,0,1,0,0,1,0]).toList 0 #[.slice Y0 l0 y0,g1,g2,g3,.int .i64 x4,g5,.int .i64 x6,g7,g8,g9,gA,gB,gC,gD,gE,gF,gG,gH,gI,gJ,gK,gL,gM,gN,gO,gP,gQ,gR,gS,gT,gU,gV,gW,gX,gY,gZ,hA,hB,hC] M K=K #[.slice Y0 l0 y0,g1,g2,g3,.int .i64 x4,g5,.int .i64 x6,g7,g8,g9,gA,gB,gC,gD,gE,gF,gG,gH,gI,.int .i64 x4,.int .i64 x6,.int .i64 (IntKind.i64.wrap (x4+x6)),.slice Y0 l0 y0,.int .i64 ((l0:Int)),.bool (decide ((IntKind.i64.wrap (x4+x6))<((l0:Int)))),gP,gQ,gR,gS,gT,gU,gV,gW,gX,gY,gZ,hA,hB,hC] M:=by kernel_rfl
theorem c54_39:P54 [1,1,0,1,0,0,1,0,0,1,0,1,0,0,1,0,0,1,1]=.cond (.tmp 24) (P54 [1,1,0,1,0,0,1,0,0,1,0,1,0,0,1,0,0,1,1,0]) (P54 [1,1,0,1,0,0,1,0,0,1,0,1,0,0,1,0,0,1,1,1]):=by kernel_rfl
theorem k54_40:P54 [1,1,0,1,0,0,1,0,0,1,0,1,0,0,1,0,0,1,1,0]=.region 11 (O54 [1,1,0,1,0,0,1,0,0,1,0,1,0,0,1,0,0,1,1,0]) false:=by kernel_rfl
theorem r54_11 {Y0:Option Addr} {l0 y0:Nat} {x4 x5 x6:Int} {M:Mem} {call:CallM} {K:Array Value→Mem→R} :
 opsK Try.prog (fun _=>call) (O54 [1,1,0,1,0,0,1,0,0,1,0,1,0,0,1,0,0,1,1,0]) (O54 [1,1,0,1,0,0,1,0,0,1,0,1,0,0,1,0,0,1,1,0]).toList 0 #[.slice Y0 l0 y0,g1,g2,g3,.int .i64 x4,.int .i64 x5,.int .i64 x6,g7,g8,g9,gA,gB,gC,gD,gE,gF,gG,gH,gI,gJ,gK,gL,gM,gN,gO,gP,gQ,gR,gS,gT,gU,gV,gW,gX,gY,gZ,hA,hB,hC] M K=(idxA Y0 l0 1 (IntKind.i64.wrap (x4+x6))).bind fun a_1=>(M.intAt .i64 a_1.block a_1.off).bind fun x_2=>K #[.slice Y0 l0 y0,g1,g2,g3,.int .i64 x4,.int .i64 (IntKind.i64.wrap (x5+x_2)),.int .i64 x6,g7,g8,g9,gA,gB,gC,gD,gE,gF,gG,gH,gI,gJ,gK,gL,gM,gN,gO,.int .i64 x5,.slice Y0 l0 y0,.int .i64 x4,.int .i64 x6,.int .i64 (IntKind.i64.wrap (x4+x6)),.pointer (some a_1),.int .i64 x_2,.int .i64 (IntKind.i64.wrap (x5+x_2)),gX,gY,gZ,hA,hB,hC] M:=by kernel_rfl
theorem k54_41:P54 [1,1,0,1,0,0,1,0,0,1,0,1,0,0,1,0,0,1,1,1]=.skip:=by kernel_rfl
theorem k54_42:P54 [1,1,0,1,0,0,1,0,0,1,0,1,0,0,0,1,1]=.exit 2:=by kernel_rfl
theorem k54_43:P54 [1,1,0,1,0,0,1,0,0,1,1]=.region 12 (O54 [1,1,0,1,0,0,1,0,0,1,1]) false:=by kernel_rfl
theorem r54_12 {Y3:Option Addr} {l3 y3:Nat} {x5:Int} {M:Mem} {call:CallM} {K:Array Value→Mem→R} :
 opsK Try.prog (fun _=>call) (O54 [1,1,0,1,0,0,1,0,0,1,1]) (O54 [1,1,0,1,0,0,1,0,0,1,1]).toList 0 #[g0,g1,g2,.slice Y3 l3 y3,g4,.int .i64 x5,g6,g7,g8,g9,gA,gB,gC,gD,gE,gF,gG,gH,gI,gJ,gK,gL,gM,gN,gO,gP,gQ,gR,gS,gT,gU,gV,gW,gX,gY,gZ,hA,hB,hC] M K=(appendP Try.prog #[46,46] (.slice Y3 l3 y3) (.slice (some ⟨2*M.nb.size,0,none⟩) 1 1) (M.new (.cells #[.int .u8 (IntKind.u8.wrap (x5))] 5))).bind fun r_1=>(asS r_1.1).bind fun s_2=>K #[g0,g1,g2,.slice s_2.1 (s_2.2.1) (s_2.2.2),g4,.int .i64 x5,g6,g7,g8,g9,gA,gB,gC,gD,gE,gF,gG,gH,gI,gJ,gK,gL,gM,gN,gO,gP,gQ,gR,gS,gT,gU,gV,gW,.slice Y3 l3 y3,.int .i64 x5,.int .u8 (IntKind.u8.wrap (x5)),.slice (some ⟨2*M.nb.size,0,none⟩) 1 1,.slice s_2.1 (s_2.2.1) (s_2.2.2),hC] r_1.2:=by kernel_rfl
theorem k54_44:P54 [1,1,0,1,0,0,1,1]=.region 4 (O54 [1,1,0,1,0,0,1,1]) false:=by kernel_rfl
theorem r54_4 {x4:Int} {M:Mem} {call:CallM} {K:Array Value→Mem→R} :
 opsK Try.prog (fun _=>call) (O54 [1,1,0,1,0,0,1,1]) (O54 [1,1,0,1,0,0,1,1]).toList 0 #[g0,g1,g2,g3,.int .i64 x4,g5,g6,g7,g8,g9,gA,gB,gC,gD,gE,gF,gG,gH,gI,gJ,gK,gL,gM,gN,gO,gP,gQ,gR,gS,gT,gU,gV,gW,gX,gY,gZ,hA,hB,hC] M K=K #[g0,g1,g2,g3,.int .i64 (IntKind.i64.wrap (x4+8)),g5,g6,g7,g8,g9,gA,.int .i64 x4,.int .i64 (IntKind.i64.wrap (x4+8)),gD,gE,gF,gG,gH,gI,gJ,gK,gL,gM,gN,gO,gP,gQ,gR,gS,gT,gU,gV,gW,gX,gY,gZ,hA,hB,hC] M:=by kernel_rfl
theorem k54_45:P54 [1,1,0,1,0,0,1,0,0,1,0,1,0,0,1,1]=.region 8 (O54 [1,1,0,1,0,0,1,0,0,1,0,1,0,0,1,1]) false:=by kernel_rfl
theorem r54_8 {x6:Int} {M:Mem} {call:CallM} {K:Array Value→Mem→R} :
 opsK Try.prog (fun _=>call) (O54 [1,1,0,1,0,0,1,0,0,1,0,1,0,0,1,1]) (O54 [1,1,0,1,0,0,1,0,0,1,0,1,0,0,1,1]).toList 0 #[g0,g1,g2,g3,g4,g5,.int .i64 x6,g7,g8,g9,gA,gB,gC,gD,gE,gF,gG,gH,gI,gJ,gK,gL,gM,gN,gO,gP,gQ,gR,gS,gT,gU,gV,gW,gX,gY,gZ,hA,hB,hC] M K=K #[g0,g1,g2,g3,g4,g5,.int .i64 (IntKind.i64.wrap (x6+1)),g7,g8,g9,gA,gB,gC,gD,gE,.int .i64 x6,.int .i64 (IntKind.i64.wrap (x6+1)),gH,gI,gJ,gK,gL,gM,gN,gO,gP,gQ,gR,gS,gT,gU,gV,gW,gX,gY,gZ,hA,hB,hC] M:=by kernel_rfl
noncomputable def S54_1:List Item:=[.code (P54 [1,1,0,1,0,0]),.inLoop (P54 [1,1,0,1,0,0]),.inBlock 0,.code (P54 [1,1,1])]
def A54_1 (Y0:Option Addr) (l0 y0:Nat) (Y3:Option Addr) (l3 y3:Nat) (x4:Int) (M:Mem) (Q:Value→Mem→Prop):Prop:=∀ (g1 g2 g5 g6 g7 g8 g9 gA gB gC gD gE gF gG gH gI gJ gK gL gM gN gO gP gQ gR gS gT gU gV gW gX gY gZ hA hB hC:Value),Rn Try.prog Try.f54 S54_1 #[.slice Y0 l0 y0,g1,g2,.slice Y3 l3 y3,.int .i64 x4,g5,g6,g7,g8,g9,gA,gB,gC,gD,gE,gF,gG,gH,gI,gJ,gK,gL,gM,gN,gO,gP,gQ,gR,gS,gT,gU,gV,gW,gX,gY,gZ,hA,hB,hC] M Q
noncomputable def S54_2:List Item:=[.code (P54 [1,1,0,1,0,0,1,0,0,1,0,1,0,0]),.inLoop (P54 [1,1,0,1,0,0,1,0,0,1,0,1,0,0]),.inBlock 2,.code (P54 [1,1,0,1,0,0,1,0,0,1,1]),.inBlock 1,.code (P54 [1,1,0,1,0,0,1,1]),.inLoop (P54 [1,1,0,1,0,0]),.inBlock 0,.code (P54 [1,1,1])]
def A54_2 (Y0:Option Addr) (l0 y0:Nat) (Y3:Option Addr) (l3 y3:Nat) (x4 x5 x6:Int) (M:Mem) (Q:Value→Mem→Prop):Prop:=∀ (g1 g2 g7 g8 g9 gA gB gC gD gE gF gG gH gI gJ gK gL gM gN gO gP gQ gR gS gT gU gV gW gX gY gZ hA hB hC:Value),Rn Try.prog Try.f54 S54_2 #[.slice Y0 l0 y0,g1,g2,.slice Y3 l3 y3,.int .i64 x4,.int .i64 x5,.int .i64 x6,g7,g8,g9,gA,gB,gC,gD,gE,gF,gG,gH,gI,gJ,gK,gL,gM,gN,gO,gP,gQ,gR,gS,gT,gU,gV,gW,gX,gY,gZ,hA,hB,hC] M Q
noncomputable def S54_3:List Item:=[.code (P54 [1,1,0,1,0,0,1,0,0,1,0,1,0,0,1,1]),.inLoop (P54 [1,1,0,1,0,0,1,0,0,1,0,1,0,0]),.inBlock 2,.code (P54 [1,1,0,1,0,0,1,0,0,1,1]),.inBlock 1,.code (P54 [1,1,0,1,0,0,1,1]),.inLoop (P54 [1,1,0,1,0,0]),.inBlock 0,.code (P54 [1,1,1])]
def A54_3 (Y0:Option Addr) (l0 y0:Nat) (Y3:Option Addr) (l3 y3:Nat) (x4 x5 x6:Int) (M:Mem) (Q:Value→Mem→Prop):Prop:=∀ (g1 g2 g7 g8 g9 gA gB gC gD gE gF gG gH gI gJ gK gL gM gN gO gP gQ gR gS gT gU gV gW gX gY gZ hA hB hC:Value),Rn Try.prog Try.f54 S54_3 #[.slice Y0 l0 y0,g1,g2,.slice Y3 l3 y3,.int .i64 x4,.int .i64 x5,.int .i64 x6,g7,g8,g9,gA,gB,gC,gD,gE,gF,gG,gH,gI,gJ,gK,gL,gM,gN,gO,gP,gQ,gR,gS,gT,gU,gV,gW,gX,gY,gZ,hA,hB,hC] M Q
theorem w54_0 {Y0:Option Addr} {l0 y0:Nat} {M:Mem} {Q:Value→Mem→Prop} (H :
 A54_1 Y0 l0 y0 none 0 0 0 M Q):
 Cn Try.prog 54 #[.slice Y0 l0 y0] M Q:=by
  refine Cn.of b54 d54 t54 ?_
  refine Rn.seq k54_0 (Rn.region k54_1 (fun call K=>r54_0) (Rch.leaf (Rn.seq k54_2 (Rn.region k54_3 (fun call K=>r54_1) (Rch.leaf (Rn.seq k54_4 (Rn.seq k54_5 (Rn.region k54_6 (fun call K=>r54_2) (Rch.leaf (Rn.block k54_7 (Rn.loop k54_8 ?_)))))))))))
  exact H ..
theorem w54_1 {Y0:Option Addr} {l0 y0:Nat} {Y3:Option Addr} {l3 y3:Nat} {x4:Int} {M:Mem} {Q:Value→Mem→Prop} (H :
 ((x4<((l0:Int))→
 A54_2 Y0 l0 y0 Y3 l3 y3 x4 0 0 M Q)∧
 (¬(x4<((l0:Int)))→
 Q (.slice Y3 l3 y3) M))):
 A54_1 Y0 l0 y0 Y3 l3 y3 x4 M Q:=by
  iterate 36 intro _
  refine Rn.seq k54_9 (Rn.seq k54_10 (Rn.region k54_11 (fun call K=>r54_3) (Rch.leaf ?_)))
  refine Rn.cnd (v:=decide (x4<((l0:Int)))) ⟨c54_12,rfl,by kernel_rfl⟩ (fun h=>?_) (fun h=>?_)
  · replace H:=H.1 (of_decide_eq_true h)
    refine Rn.skip k54_13 (Rn.seq k54_14 (Rn.block k54_15 (Rn.seq k54_16 (Rn.region k54_17 (fun call K=>r54_5) (Rch.leaf (Rn.seq k54_18 (Rn.seq k54_19 (Rn.region k54_20 (fun call K=>r54_6) (Rch.leaf (Rn.block k54_21 (Rn.loop k54_22 ?_)))))))))))
    exact H ..
  · replace H:=H.2 (of_decide_eq_false h)
    refine Rn.exit k54_23 rfl (Rn.seq k54_24 (Rn.region k54_25 (fun call K=>r54_13) (Rch.leaf ?_)))
    exact Rn.ret k54_26 e54 H
theorem w54_2 {Y0:Option Addr} {l0 y0:Nat} {Y3:Option Addr} {l3 y3:Nat} {x4 x5 x6:Int} {M:Mem} {Q:Value→Mem→Prop} (H :
 ((x6<8→
 (((IntKind.i64.wrap (x4+x6))<((l0:Int))→
 ∃a1',idxA Y0 l0 1 (IntKind.i64.wrap (x4+x6))=some a1'∧
 ∃x2',M.intAt .i64 a1'.block a1'.off=some x2'∧
 A54_3 Y0 l0 y0 Y3 l3 y3 x4 (IntKind.i64.wrap ((IntKind.i64.wrap (x5*2))+x2')) x6 M Q)∧
 (¬((IntKind.i64.wrap (x4+x6))<((l0:Int)))→
 A54_3 Y0 l0 y0 Y3 l3 y3 x4 (IntKind.i64.wrap (x5*2)) x6 M Q)))∧
 (¬(x6<8)→
 ∃r3',appendP Try.prog #[46,46] (.slice Y3 l3 y3) (.slice (some ⟨2*M.nb.size,0,none⟩) 1 1) (M.new (.cells #[.int .u8 (IntKind.u8.wrap (x5))] 5))=some r3'∧
 ∃s4',asS r3'.1=some s4'∧
 A54_1 Y0 l0 y0 s4'.1 s4'.2.1 s4'.2.2 (IntKind.i64.wrap (x4+8)) r3'.2 Q))):
 A54_2 Y0 l0 y0 Y3 l3 y3 x4 x5 x6 M Q:=by
  iterate 34 intro _
  refine Rn.seq k54_28 (Rn.seq k54_29 (Rn.region k54_30 (fun call K=>r54_7) (Rch.leaf ?_)))
  refine Rn.cnd (v:=decide (x6<8)) ⟨c54_31,rfl,by kernel_rfl⟩ (fun h=>?_) (fun h=>?_)
  · replace H:=H.1 (of_decide_eq_true h)
    refine Rn.skip k54_32 (Rn.seq k54_33 (Rn.block k54_34 (Rn.seq k54_35 (Rn.region k54_36 (fun call K=>r54_9) (Rch.leaf (Rn.seq k54_37 (Rn.region k54_38 (fun call K=>r54_10) (Rch.leaf ?_))))))))
    refine Rn.cnd (v:=decide ((IntKind.i64.wrap (x4+x6))<((l0:Int)))) ⟨c54_39,rfl,by kernel_rfl⟩ (fun h=>?_) (fun h=>?_)
    · replace H:=H.1 (of_decide_eq_true h)
      refine Rn.region k54_40 (fun call K=>r54_11) (Rch.ex H fun a1' H=>Rch.ex H fun x2' H=>Rch.leaf (Rn.blk ?_))
      exact H ..
    · replace H:=H.2 (of_decide_eq_false h)
      refine Rn.skip k54_41 (Rn.blk ?_)
      exact H ..
  · replace H:=H.2 (of_decide_eq_false h)
    refine Rn.exit k54_42 rfl (Rn.region k54_43 (fun call K=>r54_12) (Rch.ex H fun r3' H=>Rch.ex H fun s4' H=>Rch.leaf (Rn.blk (Rn.region k54_44 (fun call K=>r54_4) (Rch.leaf (Rn.lp ?_))))))
    exact H ..
theorem w54_3 {Y0:Option Addr} {l0 y0:Nat} {Y3:Option Addr} {l3 y3:Nat} {x4 x5 x6:Int} {M:Mem} {Q:Value→Mem→Prop} (H :
 A54_2 Y0 l0 y0 Y3 l3 y3 x4 x5 (IntKind.i64.wrap (x6+1)) M Q):
 A54_3 Y0 l0 y0 Y3 l3 y3 x4 x5 x6 M Q:=by
  iterate 34 intro _
  refine Rn.region k54_45 (fun call K=>r54_8) (Rch.leaf (Rn.lp ?_))
  exact H ..
noncomputable abbrev P53 (p:List Nat):Code:=subC (codeOf Try.f53) p
noncomputable abbrev O53 (p:List Nat):Array Oper:=opsOf (subC (codeOf Try.f53) p)
theorem b53:Try.prog.funcs[53]?=some Try.f53∧(Orc.tab Try.prog).lookup 53=none:=⟨by kernel_rfl,by kernel_rfl⟩
theorem d53:Try.f53.body=some (P53 []):=by kernel_rfl
theorem t53 {x0:Option Addr} {x1 x2:Int}:#[.pointer x0,.int .u64 x1,.int .i64 x2] ++ Array.replicate (Try.f53.ntmps-(#[.pointer x0,.int .u64 x1,.int .i64 x2]:Array Value).size) undef=#[.pointer x0,.int .u64 x1,.int .i64 x2,undef,undef,undef,undef,undef,undef,undef,undef,undef,undef,undef,undef,undef,undef,undef,undef,undef,undef,undef,undef,undef,undef,undef,undef]:=by kernel_rfl
theorem k53_0:P53 []=.seq (P53 [0]) (P53 [1]):=by kernel_rfl
theorem k53_1:P53 [0]=.region 0 (O53 [0]) false:=by kernel_rfl
theorem r53_0 {x2:Int} {M:Mem} {call:CallM} {K:Array Value→Mem→R} :
 opsK Try.prog (fun _=>call) (O53 [0]) (O53 [0]).toList 0 #[g0,g1,.int .i64 x2,g3,g4,g5,g6,g7,g8,g9,gA,gB,gC,gD,gE,gF,gG,gH,gI,gJ,gK,gL,gM,gN,gO,gP,gQ] M K=K #[g0,g1,.int .i64 x2,g3,g4,g5,.int .i64 (IntKind.i64.wrap (x2-1)),.int .i64 x2,.int .i64 (IntKind.i64.wrap (x2-1)),g9,gA,gB,gC,gD,gE,gF,gG,gH,gI,gJ,gK,gL,gM,gN,gO,gP,gQ] M:=by kernel_rfl
theorem k53_2:P53 [1]=.block 0 (P53 [1,0]):=by kernel_rfl
theorem k53_3:P53 [1,0]=.loop (P53 [1,0,0]):=by kernel_rfl
theorem k53_4:P53 [1,0,0]=.seq (P53 [1,0,0,0]) (P53 [1,0,0,1]):=by kernel_rfl
theorem k53_5:P53 [1,0,0,0]=.seq (P53 [1,0,0,0,0]) (P53 [1,0,0,0,1]):=by kernel_rfl
theorem k53_6:P53 [1,0,0,0,0]=.region 1 (O53 [1,0,0,0,0]) false:=by kernel_rfl
theorem r53_1 {x6:Int} {M:Mem} {call:CallM} {K:Array Value→Mem→R} :
 opsK Try.prog (fun _=>call) (O53 [1,0,0,0,0]) (O53 [1,0,0,0,0]).toList 0 #[g0,g1,g2,g3,g4,g5,.int .i64 x6,g7,g8,g9,gA,gB,gC,gD,gE,gF,gG,gH,gI,gJ,gK,gL,gM,gN,gO,gP,gQ] M K=K #[g0,g1,g2,g3,g4,g5,.int .i64 x6,g7,g8,.int .i64 x6,.bool (decide (x6≥0)),gB,gC,gD,gE,gF,gG,gH,gI,gJ,gK,gL,gM,gN,gO,gP,gQ] M:=by kernel_rfl
theorem c53_7:P53 [1,0,0,0,1]=.cond (.tmp 10) (P53 [1,0,0,0,1,0]) (P53 [1,0,0,0,1,1]):=by kernel_rfl
theorem k53_8:P53 [1,0,0,0,1,0]=.skip:=by kernel_rfl
theorem k53_9:P53 [1,0,0,1]=.seq (P53 [1,0,0,1,0]) (P53 [1,0,0,1,1]):=by kernel_rfl
theorem k53_10:P53 [1,0,0,1,0]=.block 1 (P53 [1,0,0,1,0,0]):=by kernel_rfl
theorem k53_11:P53 [1,0,0,1,0,0]=.region 3 (O53 [1,0,0,1,0,0]) true∧drawOk (O53 [1,0,0,1,0,0])=true:=⟨by kernel_rfl,by kernel_rfl⟩
theorem r53_3 {x0:Option Addr} {x1 x6:Int} {M:Mem} {call:CallM} {K:Array Value→Mem→R} :
    opsI Try.prog (callAt call (O53 [1,0,0,1,0,0])) (O53 [1,0,0,1,0,0]) (ordOf (O53 [1,0,0,1,0,0])) [] #[.pointer x0,.int .u64 x1,g2,g3,g4,g5,.int .i64 x6,g7,g8,g9,gA,gB,gC,gD,gE,gF,gG,gH,gI,gJ,gK,gL,gM,gN,gO,gP,gQ] M K=(x0).bind fun a_1=>(M.slAt a_1.block a_1.off).bind fun s_2=>(binV Try.prog .shr 80 3 (.int .u64 x1) (.int .i64 x6)).bind fun v_3=>(asI .u64 v_3).bind fun x_4=>(appendP Try.prog #[22,22] (.slice s_2.1 (s_2.2.1) (s_2.2.2)) (.slice (some ⟨2*M.nb.size,0,none⟩) 1 1) (M.new (.cells #[.int .i64 ((IntKind.i64.wrap (x_4)).tmod 2)] 3))).bind fun r_5=>(asS r_5.1).bind fun s_6=>(x0).bind fun a_7=>(r_5.2.put a_7.block a_7.off (.slice s_6.1 (s_6.2.1) (s_6.2.2))).bind fun M_8=>K #[.pointer x0,.int .u64 x1,g2,g3,g4,g5,.int .i64 x6,g7,g8,g9,gA,gB,gC,.pointer x0,.pointer x0,.pointer (some a_1),.pointer (some ⟨a_1.block,a_1.off,none⟩),.slice s_2.1 (s_2.2.1) (s_2.2.2),.int .u64 x1,.int .i64 x6,.int .u64 x_4,.int .i64 (IntKind.i64.wrap (x_4)),.int .i64 ((IntKind.i64.wrap (x_4)).tmod 2),.slice (some ⟨2*M.nb.size,0,none⟩) 1 1,.slice s_6.1 (s_6.2.1) (s_6.2.2),.pointer (some a_7),.pointer (some ⟨a_7.block,a_7.off,none⟩)] M_8:=by kernel_rfl
theorem k53_12:P53 [1,0,0,1,1]=.region 2 (O53 [1,0,0,1,1]) false:=by kernel_rfl
theorem r53_2 {x6:Int} {M:Mem} {call:CallM} {K:Array Value→Mem→R} :
 opsK Try.prog (fun _=>call) (O53 [1,0,0,1,1]) (O53 [1,0,0,1,1]).toList 0 #[g0,g1,g2,g3,g4,g5,.int .i64 x6,g7,g8,g9,gA,gB,gC,gD,gE,gF,gG,gH,gI,gJ,gK,gL,gM,gN,gO,gP,gQ] M K=K #[g0,g1,g2,g3,g4,g5,.int .i64 (IntKind.i64.wrap (x6-1)),g7,g8,g9,gA,.int .i64 x6,.int .i64 (IntKind.i64.wrap (x6-1)),gD,gE,gF,gG,gH,gI,gJ,gK,gL,gM,gN,gO,gP,gQ] M:=by kernel_rfl
theorem k53_13:P53 [1,0,0,0,1,1]=.exit 0:=by kernel_rfl
theorem e53 {M:Mem}:finish Try.prog Try.f53 #[g0,g1,g2,g3,g4,g5,g6,g7,g8,g9,gA,gB,gC,gD,gE,gF,gG,gH,gI,gJ,gK,gL,gM,gN,gO,gP,gQ] M=some (.tuple #[],M):=by kernel_rfl
noncomputable def S53_1:List Item:=[.code (P53 [1,0,0]),.inLoop (P53 [1,0,0]),.inBlock 0]
def A53_1 (x0:Option Addr) (x1 x6:Int) (M:Mem) (Q:Value→Mem→Prop):Prop:=∀ (g2 g3 g4 g5 g7 g8 g9 gA gB gC gD gE gF gG gH gI gJ gK gL gM gN gO gP gQ:Value),Rn Try.prog Try.f53 S53_1 #[.pointer x0,.int .u64 x1,g2,g3,g4,g5,.int .i64 x6,g7,g8,g9,gA,gB,gC,gD,gE,gF,gG,gH,gI,gJ,gK,gL,gM,gN,gO,gP,gQ] M Q
theorem w53_0 {x0:Option Addr} {x1 x2:Int} {M:Mem} {Q:Value→Mem→Prop} (H :
 A53_1 x0 x1 (IntKind.i64.wrap (x2-1)) M Q):
 Cn Try.prog 53 #[.pointer x0,.int .u64 x1,.int .i64 x2] M Q:=by
  refine Cn.of b53 d53 t53 ?_
  refine Rn.seq k53_0 (Rn.region k53_1 (fun call K=>r53_0) (Rch.leaf (Rn.block k53_2 (Rn.loop k53_3 ?_))))
  exact H ..
theorem w53_1 {x0:Option Addr} {x1 x6:Int} {M:Mem} {Q:Value→Mem→Prop} (H :
 ((x6≥0→
 ∃a1',x0=some a1'∧
 ∃s2',M.slAt a1'.block a1'.off=some s2'∧
 ∃v3',binV Try.prog .shr 80 3 (.int .u64 x1) (.int .i64 x6)=some v3'∧
 ∃x4',asI .u64 v3'=some x4'∧
 ∃r5',appendP Try.prog #[22,22] (.slice s2'.1 (s2'.2.1) (s2'.2.2)) (.slice (some ⟨2*M.nb.size,0,none⟩) 1 1) (M.new (.cells #[.int .i64 ((IntKind.i64.wrap (x4')).tmod 2)] 3))=some r5'∧
 ∃s6',asS r5'.1=some s6'∧
 ∃a7',x0=some a7'∧
 ∃M8',r5'.2.put a7'.block a7'.off (.slice s6'.1 (s6'.2.1) (s6'.2.2))=some M8'∧
 A53_1 x0 x1 (IntKind.i64.wrap (x6-1)) M8' Q)∧
 (¬(x6≥0)→
 Q (.tuple #[]) M))):
 A53_1 x0 x1 x6 M Q:=by
  iterate 24 intro _
  refine Rn.seq k53_4 (Rn.seq k53_5 (Rn.region k53_6 (fun call K=>r53_1) (Rch.leaf ?_)))
  refine Rn.cnd (v:=decide (x6≥0)) ⟨c53_7,rfl,by kernel_rfl⟩ (fun h=>?_) (fun h=>?_)
  · replace H:=H.1 (of_decide_eq_true h)
    refine Rn.skip k53_8 (Rn.seq k53_9 (Rn.block k53_10 (Rn.regionD k53_11 (fun call K=>r53_3) (Rch.ex H fun a1' H=>Rch.ex H fun s2' H=>Rch.ex H fun v3' H=>Rch.ex H fun x4' H=>Rch.ex H fun r5' H=>Rch.ex H fun s6' H=>Rch.ex H fun a7' H=>Rch.ex H fun M8' H=>?_))))
    refine Rch.leaf (Rn.blk (Rn.region k53_12 (fun call K=>r53_2) (Rch.leaf (Rn.lp ?_))))
    exact H ..
  · replace H:=H.2 (of_decide_eq_false h)
    refine Rn.exit k53_13 rfl ?_
    exact Rn.fin e53 H
noncomputable abbrev P52 (p:List Nat):Code:=subC (codeOf Try.f52) p
noncomputable abbrev O52 (p:List Nat):Array Oper:=opsOf (subC (codeOf Try.f52) p)
theorem b52:Try.prog.funcs[52]?=some Try.f52∧(Orc.tab Try.prog).lookup 52=none:=⟨by kernel_rfl,by kernel_rfl⟩
theorem d52:Try.f52.body=some (P52 []):=by kernel_rfl
theorem t52 {x0:Option Addr} {x1 x2:Int}:#[.pointer x0,.int .u64 x1,.int .i64 x2] ++ Array.replicate (Try.f52.ntmps-(#[.pointer x0,.int .u64 x1,.int .i64 x2]:Array Value).size) undef=#[.pointer x0,.int .u64 x1,.int .i64 x2,undef,undef,undef,undef,undef,undef,undef,undef,undef,undef,undef,undef,undef,undef,undef,undef,undef,undef,undef,undef,undef,undef,undef,undef,undef,undef,undef,undef,undef,undef,undef,undef,undef,undef,undef,undef,undef,undef,undef,undef,undef,undef,undef,undef,undef,undef,undef,undef,undef,undef,undef,undef,undef,undef,undef,undef,undef,undef]:=by kernel_rfl
theorem k52_0:P52 []=.seq (P52 [0]) (P52 [1]):=by kernel_rfl
theorem k52_1:P52 [0]=.region 0 (O52 [0]) false:=by kernel_rfl
theorem r52_0 {x2:Int} {M:Mem} {call:CallM} {K:Array Value→Mem→R} :
 opsK Try.prog (fun _=>call) (O52 [0]) (O52 [0]).toList 0 #[g0,g1,.int .i64 x2,g3,g4,g5,g6,g7,g8,g9,gA,gB,gC,gD,gE,gF,gG,gH,gI,gJ,gK,gL,gM,gN,gO,gP,gQ,gR,gS,gT,gU,gV,gW,gX,gY,gZ,hA,hB,hC,hD,hE,hF,hG,hH,hI,hJ,hK,hL,hM,hN,hO,hP,hQ,hR,hS,hT,hU,hV,hW,hX,hY] M K=K #[g0,g1,.int .i64 x2,g3,g4,g5,.int .i64 (IntKind.i64.wrap (x2-1)),.int .i64 x2,.int .i64 (IntKind.i64.wrap (x2-1)),g9,gA,gB,gC,gD,gE,gF,gG,gH,gI,gJ,gK,gL,gM,gN,gO,gP,gQ,gR,gS,gT,gU,gV,gW,gX,gY,gZ,hA,hB,hC,hD,hE,hF,hG,hH,hI,hJ,hK,hL,hM,hN,hO,hP,hQ,hR,hS,hT,hU,hV,hW,hX,hY] M:=by kernel_rfl
theorem k52_2:P52 [1]=.block 0 (P52 [1,0]):=by kernel_rfl
theorem k52_3:P52 [1,0]=.loop (P52 [1,0,0]):=by kernel_rfl
theorem k52_4:P52 [1,0,0]=.seq (P52 [1,0,0,0]) (P52 [1,0,0,1]):=by kernel_rfl
theorem k52_5:P52 [1,0,0,0]=.seq (P52 [1,0,0,0,0]) (P52 [1,0,0,0,1]):=by kernel_rfl
theorem k52_6:P52 [1,0,0,0,0]=.region 1 (O52 [1,0,0,0,0]) false:=by kernel_rfl
theorem r52_1 {x6:Int} {M:Mem} {call:CallM} {K:Array Value→Mem→R} :
 opsK Try.prog (fun _=>call) (O52 [1,0,0,0,0]) (O52 [1,0,0,0,0]).toList 0 #[g0,g1,g2,g3,g4,g5,.int .i64 x6,g7,g8,g9,gA,gB,gC,gD,gE,gF,gG,gH,gI,gJ,gK,gL,gM,gN,gO,gP,gQ,gR,gS,gT,gU,gV,gW,gX,gY,gZ,hA,hB,hC,hD,hE,hF,hG,hH,hI,hJ,hK,hL,hM,hN,hO,hP,hQ,hR,hS,hT,hU,hV,hW,hX,hY] M K=K #[g0,g1,g2,g3,g4,g5,.int .i64 x6,g7,g8,.int .i64 x6,.bool (decide (x6≥0)),gB,gC,gD,gE,gF,gG,gH,gI,gJ,gK,gL,gM,gN,gO,gP,gQ,gR,gS,gT,gU,gV,gW,gX,gY,gZ,hA,hB,hC,hD,hE,hF,hG,hH,hI,hJ,hK,hL,hM,hN,hO,hP,hQ,hR,hS,hT,hU,hV,hW,hX,hY] M:=by kernel_rfl
theorem c52_7:P52 [1,0,0,0,1]=.cond (.tmp 10) (P52 [1,0,0,0,1,0]) (P52 [1,0,0,0,1,1]):=by kernel_rfl
theorem k52_8:P52 [1,0,0,0,1,0]=.skip:=by kernel_rfl
theorem k52_9:P52 [1,0,0,1]=.seq (P52 [1,0,0,1,0]) (P52 [1,0,0,1,1]):=by kernel_rfl
theorem k52_10:P52 [1,0,0,1,0]=.block 1 (P52 [1,0,0,1,0,0]):=by kernel_rfl
theorem k52_11:P52 [1,0,0,1,0,0]=.seq (P52 [1,0,0,1,0,0,0]) (P52 [1,0,0,1,0,0,1]):=by kernel_rfl
theorem k52_12:P52 [1,0,0,1,0,0,0]=.seq (P52 [1,0,0,1,0,0,0,0]) (P52 [1,0,0,1,0,0,0,1]):=by kernel_rfl
theorem k52_13:P52 [1,0,0,1,0,0,0,0]=.region 3 (O52 [1,0,0,1,0,0,0,0]) false:=by kernel_rfl
theorem r52_3 {x0:Option Addr} {M:Mem} {call:CallM} {K:Array Value→Mem→R} :
 opsK Try.prog (fun _=>call) (O52 [1,0,0,1,0,0,0,0]) (O52 [1,0,0,1,0,0,0,0]).toList 0 #[.pointer x0,g1,g2,g3,g4,g5,g6,g7,g8,g9,gA,gB,gC,gD,gE,gF,gG,gH,gI,gJ,gK,gL,gM,gN,gO,gP,gQ,gR,gS,gT,gU,gV,gW,gX,gY,gZ,hA,hB,hC,hD,hE,hF,hG,hH,hI,hJ,hK,hL,hM,hN,hO,hP,hQ,hR,hS,hT,hU,hV,hW,hX,hY] M K=(x0).bind fun a_1=>(M.intAt .i64 a_1.block (a_1.off+1)).bind fun x_2=>K #[.pointer x0,g1,g2,g3,g4,g5,g6,g7,g8,g9,gA,gB,gC,.pointer x0,.pointer (some a_1),.pointer (some ⟨a_1.block,a_1.off+1,none⟩),.int .i64 x_2,.bool (x_2 == 0),gI,gJ,gK,gL,gM,gN,gO,gP,gQ,gR,gS,gT,gU,gV,gW,gX,gY,gZ,hA,hB,hC,hD,hE,hF,hG,hH,hI,hJ,hK,hL,hM,hN,hO,hP,hQ,hR,hS,hT,hU,hV,hW,hX,hY] M:=by kernel_rfl
theorem c52_14:P52 [1,0,0,1,0,0,0,1]=.cond (.tmp 17) (P52 [1,0,0,1,0,0,0,1,0]) (P52 [1,0,0,1,0,0,0,1,1]):=by kernel_rfl
theorem k52_15:P52 [1,0,0,1,0,0,0,1,0]=.seq (P52 [1,0,0,1,0,0,0,1,0,0]) (P52 [1,0,0,1,0,0,0,1,0,1]):=by kernel_rfl
theorem k52_16:P52 [1,0,0,1,0,0,0,1,0,0]=.region 4 (O52 [1,0,0,1,0,0,0,1,0,0]) false:=by kernel_rfl
theorem r52_4 {x0:Option Addr} {M:Mem} {call:CallM} {K:Array Value→Mem→R} :
 opsK Try.prog (fun _=>call) (O52 [1,0,0,1,0,0,0,1,0,0]) (O52 [1,0,0,1,0,0,0,1,0,0]).toList 0 #[.pointer x0,g1,g2,g3,g4,g5,g6,g7,g8,g9,gA,gB,gC,gD,gE,gF,gG,gH,gI,gJ,gK,gL,gM,gN,gO,gP,gQ,gR,gS,gT,gU,gV,gW,gX,gY,gZ,hA,hB,hC,hD,hE,hF,hG,hH,hI,hJ,hK,hL,hM,hN,hO,hP,hQ,hR,hS,hT,hU,hV,hW,hX,hY] M K=(x0).bind fun a_1=>(M.slAt a_1.block a_1.off).bind fun s_2=>(appendP Try.prog #[46,46] (.slice s_2.1 (s_2.2.1) (s_2.2.2)) (.slice (some ⟨2*M.nb.size,0,none⟩) 1 1) (M.new (.cells #[.int .u8 0] 5))).bind fun r_3=>(asS r_3.1).bind fun s_4=>(x0).bind fun a_5=>(r_3.2.put a_5.block a_5.off (.slice s_4.1 (s_4.2.1) (s_4.2.2))).bind fun M_6=>K #[.pointer x0,g1,g2,g3,g4,g5,g6,g7,g8,g9,gA,gB,gC,gD,gE,gF,gG,gH,.pointer x0,.pointer x0,.pointer (some a_1),.pointer (some ⟨a_1.block,a_1.off,none⟩),.slice s_2.1 (s_2.2.1) (s_2.2.2),.slice (some ⟨2*M.nb.size,0,none⟩) 1 1,.slice s_4.1 (s_4.2.1) (s_4.2.2),.pointer (some a_5),.pointer (some ⟨a_5.block,a_5.off,none⟩),gR,gS,gT,gU,gV,gW,gX,gY,gZ,hA,hB,hC,hD,hE,hF,hG,hH,hI,hJ,hK,hL,hM,hN,hO,hP,hQ,hR,hS,hT,hU,hV,hW,hX,hY] M_6:=by kernel_rfl
theorem k52_17:P52 [1,0,0,1,0,0,0,1,0,1]=.region 5 (O52 [1,0,0,1,0,0,0,1,0,1]) false:=by kernel_rfl
theorem r52_5 {x0:Option Addr} {M:Mem} {call:CallM} {K:Array Value→Mem→R} :
 opsK Try.prog (fun _=>call) (O52 [1,0,0,1,0,0,0,1,0,1]) (O52 [1,0,0,1,0,0,0,1,0,1]).toList 0 #[.pointer x0,g1,g2,g3,g4,g5,g6,g7,g8,g9,gA,gB,gC,gD,gE,gF,gG,gH,gI,gJ,gK,gL,gM,gN,gO,gP,gQ,gR,gS,gT,gU,gV,gW,gX,gY,gZ,hA,hB,hC,hD,hE,hF,hG,hH,hI,hJ,hK,hL,hM,hN,hO,hP,hQ,hR,hS,hT,hU,hV,hW,hX,hY] M K=(x0).bind fun a_1=>(M.put a_1.block (a_1.off+1) (.int .i64 8)).bind fun M_2=>K #[.pointer x0,g1,g2,g3,g4,g5,g6,g7,g8,g9,gA,gB,gC,gD,gE,gF,gG,gH,gI,gJ,gK,gL,gM,gN,gO,gP,gQ,.pointer x0,.pointer (some a_1),.pointer (some ⟨a_1.block,a_1.off+1,none⟩),gU,gV,gW,gX,gY,gZ,hA,hB,hC,hD,hE,hF,hG,hH,hI,hJ,hK,hL,hM,hN,hO,hP,hQ,hR,hS,hT,hU,hV,hW,hX,hY] M_2:=by kernel_rfl
theorem k52_18:P52 [1,0,0,1,0,0,1]=.seq (P52 [1,0,0,1,0,0,1,0]) (P52 [1,0,0,1,0,0,1,1]):=by kernel_rfl
theorem k52_19:P52 [1,0,0,1,0,0,1,0]=.region 6 (O52 [1,0,0,1,0,0,1,0]) false:=by kernel_rfl
theorem r52_6 {x0:Option Addr} {M:Mem} {call:CallM} {K:Array Value→Mem→R} :
 opsK Try.prog (fun _=>call) (O52 [1,0,0,1,0,0,1,0]) (O52 [1,0,0,1,0,0,1,0]).toList 0 #[.pointer x0,g1,g2,g3,g4,g5,g6,g7,g8,g9,gA,gB,gC,gD,gE,gF,gG,gH,gI,gJ,gK,gL,gM,gN,gO,gP,gQ,gR,gS,gT,gU,gV,gW,gX,gY,gZ,hA,hB,hC,hD,hE,hF,hG,hH,hI,hJ,hK,hL,hM,hN,hO,hP,hQ,hR,hS,hT,hU,hV,hW,hX,hY] M K=(x0).bind fun a_1=>(M.intAt .i64 a_1.block (a_1.off+1)).bind fun x_2=>(x0).bind fun a_3=>(M.put a_3.block (a_3.off+1) (.int .i64 (IntKind.i64.wrap (x_2-1)))).bind fun M_4=>K #[.pointer x0,g1,g2,g3,g4,g5,g6,g7,g8,g9,gA,gB,gC,gD,gE,gF,gG,gH,gI,gJ,gK,gL,gM,gN,gO,gP,gQ,gR,gS,gT,.pointer x0,.pointer (some a_1),.pointer (some ⟨a_1.block,a_1.off+1,none⟩),.int .i64 x_2,.int .i64 (IntKind.i64.wrap (x_2-1)),.pointer (some a_3),.pointer (some ⟨a_3.block,a_3.off+1,none⟩),hB,hC,hD,hE,hF,hG,hH,hI,hJ,hK,hL,hM,hN,hO,hP,hQ,hR,hS,hT,hU,hV,hW,hX,hY] M_4:=by kernel_rfl
theorem k52_20:P52 [1,0,0,1,0,0,1,1]=.region 7 (O52 [1,0,0,1,0,0,1,1]) true∧drawOk (O52 [1,0,0,1,0,0,1,1])=true:=⟨by kernel_rfl,by kernel_rfl⟩
theorem r52_7 {x0:Option Addr} {x1 x6:Int} {M:Mem} {call:CallM} {K:Array Value→Mem→R} :
    opsI Try.prog (callAt call (O52 [1,0,0,1,0,0,1,1])) (O52 [1,0,0,1,0,0,1,1]) (ordOf (O52 [1,0,0,1,0,0,1,1])) [] #[.pointer x0,.int .u64 x1,g2,g3,g4,g5,.int .i64 x6,g7,g8,g9,gA,gB,gC,gD,gE,gF,gG,gH,gI,gJ,gK,gL,gM,gN,gO,gP,gQ,gR,gS,gT,gU,gV,gW,gX,gY,gZ,hA,hB,hC,hD,hE,hF,hG,hH,hI,hJ,hK,hL,hM,hN,hO,hP,hQ,hR,hS,hT,hU,hV,hW,hX,hY] M K=(x0).bind fun a_1=>(M.slAt a_1.block a_1.off).bind fun s_2=>(x0).bind fun a_3=>(M.slAt a_3.block a_3.off).bind fun s_4=>(idxA s_2.1 (s_2.2.1) 1 (IntKind.i64.wrap (((s_4.2.1:Int))-1))).bind fun a_5=>(M.intAt .u8 a_5.block a_5.off).bind fun x_6=>(binV Try.prog .shr 80 3 (.int .u64 x1) (.int .i64 x6)).bind fun v_7=>(asI .u64 v_7).bind fun x_8=>(x0).bind fun a_9=>(M.intAt .i64 a_9.block (a_9.off+1)).bind fun x_10=>(binV Try.prog .shl 5 3 (.int .u8 (IntKind.u8.wrap (IntKind.u64.wrap (((BitVec.ofInt (IntKind.bits .u64) x_8 &&& BitVec.ofInt (IntKind.bits .u64) 1).toNat:Int))))) (.int .i64 x_10)).bind fun v_11=>(asI .u8 v_11).bind fun x_12=>(idxA s_2.1 (s_2.2.1) 1 (IntKind.i64.wrap (((s_4.2.1:Int))-1))).bind fun a_13=>(M.put a_13.block a_13.off (.int .u8 (IntKind.u8.wrap (((BitVec.ofInt (IntKind.bits .u8) x_6 ||| BitVec.ofInt (IntKind.bits .u8) x_12).toNat:Int))))).bind fun M_14=>K #[.pointer x0,.int .u64 x1,g2,g3,g4,g5,.int .i64 x6,g7,g8,g9,gA,gB,gC,gD,gE,gF,gG,gH,gI,gJ,gK,gL,gM,gN,gO,gP,gQ,gR,gS,gT,gU,gV,gW,gX,gY,gZ,hA,.pointer x0,.pointer (some a_1),.pointer (some ⟨a_1.block,a_1.off,none⟩),.slice s_2.1 (s_2.2.1) (s_2.2.2),.pointer x0,.pointer (some a_3),.pointer (some ⟨a_3.block,a_3.off,none⟩),.slice s_4.1 (s_4.2.1) (s_4.2.2),.int .i64 ((s_4.2.1:Int)),.int .i64 (IntKind.i64.wrap (((s_4.2.1:Int))-1)),.pointer (some a_5),.int .u8 x_6,.int .u64 x1,.int .i64 x6,.int .u64 x_8,.int .u64 (IntKind.u64.wrap (((BitVec.ofInt (IntKind.bits .u64) x_8 &&& BitVec.ofInt (IntKind.bits .u64) 1).toNat:Int))),.int .u8 (IntKind.u8.wrap (IntKind.u64.wrap (((BitVec.ofInt (IntKind.bits .u64) x_8 &&& BitVec.ofInt (IntKind.bits .u64) 1).toNat:Int)))),.pointer x0,.pointer (some a_9),.pointer (some ⟨a_9.block,a_9.off+1,none⟩),.int .i64 x_10,.int .u8 x_12,.int .u8 (IntKind.u8.wrap (((BitVec.ofInt (IntKind.bits .u8) x_6 ||| BitVec.ofInt (IntKind.bits .u8) x_12).toNat:Int))),.pointer (some a_13)] M_14:=by kernel_rfl
theorem k52_21:P52 [1,0,0,1,1]=.region 2 (O52 [1,0,0,1,1]) false:=by kernel_rfl
theorem r52_2 {x6:Int} {M:Mem} {call:CallM} {K:Array Value→Mem→R} :
 opsK Try.prog (fun _=>call) (O52 [1,0,0,1,1]) (O52 [1,0,0,1,1]).toList 0 #[g0,g1,g2,g3,g4,g5,.int .i64 x6,g7,g8,g9,gA,gB,gC,gD,gE,gF,gG,gH,gI,gJ,gK,gL,gM,gN,gO,gP,gQ,gR,gS,gT,gU,gV,gW,gX,gY,gZ,hA,hB,hC,hD,hE,hF,hG,hH,hI,hJ,hK,hL,hM,hN,hO,hP,hQ,hR,hS,hT,hU,hV,hW,hX,hY] M K=K #[g0,g1,g2,g3,g4,g5,.int .i64 (IntKind.i64.wrap (x6-1)),g7,g8,g9,gA,.int .i64 x6,.int .i64 (IntKind.i64.wrap (x6-1)),gD,gE,gF,gG,gH,gI,gJ,gK,gL,gM,gN,gO,gP,gQ,gR,gS,gT,gU,gV,gW,gX,gY,gZ,hA,hB,hC,hD,hE,hF,hG,hH,hI,hJ,hK,hL,hM,hN,hO,hP,hQ,hR,hS,hT,hU,hV,hW,hX,hY] M:=by kernel_rfl
theorem k52_22:P52 [1,0,0,1,0,0,0,1,1]=.skip:=by kernel_rfl
theorem k52_23:P52 [1,0,0,0,1,1]=.exit 0:=by kernel_rfl
theorem e52 {M:Mem}:finish Try.prog Try.f52 #[g0,g1,g2,g3,g4,g5,g6,g7,g8,g9,gA,gB,gC,gD,gE,gF,gG,gH,gI,gJ,gK,gL,gM,gN,gO,gP,gQ,gR,gS,gT,gU,gV,gW,gX,gY,gZ,hA,hB,hC,hD,hE,hF,hG,hH,hI,hJ,hK,hL,hM,hN,hO,hP,hQ,hR,hS,hT,hU,hV,hW,hX,hY] M=some (.tuple #[],M):=by kernel_rfl
noncomputable def S52_1:List Item:=[.code (P52 [1,0,0]),.inLoop (P52 [1,0,0]),.inBlock 0]
def A52_1 (x0:Option Addr) (x1 x6:Int) (M:Mem) (Q:Value→Mem→Prop):Prop:=∀ (g2 g3 g4 g5 g7 g8 g9 gA gB gC gD gE gF gG gH gI gJ gK gL gM gN gO gP gQ gR gS gT gU gV gW gX gY gZ hA hB hC hD hE hF hG hH hI hJ hK hL hM hN hO hP hQ hR hS hT hU hV hW hX hY:Value),Rn Try.prog Try.f52 S52_1 #[.pointer x0,.int .u64 x1,g2,g3,g4,g5,.int .i64 x6,g7,g8,g9,gA,gB,gC,gD,gE,gF,gG,gH,gI,gJ,gK,gL,gM,gN,gO,gP,gQ,gR,gS,gT,gU,gV,gW,gX,gY,gZ,hA,hB,hC,hD,hE,hF,hG,hH,hI,hJ,hK,hL,hM,hN,hO,hP,hQ,hR,hS,hT,hU,hV,hW,hX,hY] M Q
theorem w52_0 {x0:Option Addr} {x1 x2:Int} {M:Mem} {Q:Value→Mem→Prop} (H :
 A52_1 x0 x1 (IntKind.i64.wrap (x2-1)) M Q):
 Cn Try.prog 52 #[.pointer x0,.int .u64 x1,.int .i64 x2] M Q:=by
  refine Cn.of b52 d52 t52 ?_
  refine Rn.seq k52_0 (Rn.region k52_1 (fun call K=>r52_0) (Rch.leaf (Rn.block k52_2 (Rn.loop k52_3 ?_))))
  exact H ..
theorem w52_1 {x0:Option Addr} {x1 x6:Int} {M:Mem} {Q:Value→Mem→Prop} (H :
 ((x6≥0→
 ∃a1',x0=some a1'∧
 ∃x2',M.intAt .i64 a1'.block (a1'.off+1)=some x2'∧
 ((x2'=0→
 ∃a3',x0=some a3'∧
 ∃s4',M.slAt a3'.block a3'.off=some s4'∧
 ∃r5',appendP Try.prog #[46,46] (.slice s4'.1 (s4'.2.1) (s4'.2.2)) (.slice (some ⟨2*M.nb.size,0,none⟩) 1 1) (M.new (.cells #[.int .u8 0] 5))=some r5'∧
 ∃s6',asS r5'.1=some s6'∧
 ∃a7',x0=some a7'∧
 ∃M8',r5'.2.put a7'.block a7'.off (.slice s6'.1 (s6'.2.1) (s6'.2.2))=some M8'∧
 ∃a9',x0=some a9'∧
 ∃M10',M8'.put a9'.block (a9'.off+1) (.int .i64 8)=some M10'∧
 ∃a11',x0=some a11'∧
 ∃x12',M10'.intAt .i64 a11'.block (a11'.off+1)=some x12'∧
 ∃a13',x0=some a13'∧
 ∃M14',M10'.put a13'.block (a13'.off+1) (.int .i64 (IntKind.i64.wrap (x12'-1)))=some M14'∧
 ∃a15',x0=some a15'∧
 ∃s16',M14'.slAt a15'.block a15'.off=some s16'∧
 ∃a17',x0=some a17'∧
 ∃s18',M14'.slAt a17'.block a17'.off=some s18'∧
 ∃a19',idxA s16'.1 (s16'.2.1) 1 (IntKind.i64.wrap (((s18'.2.1:Int))-1))=some a19'∧
 ∃x20',M14'.intAt .u8 a19'.block a19'.off=some x20'∧
 ∃v21',binV Try.prog .shr 80 3 (.int .u64 x1) (.int .i64 x6)=some v21'∧
 ∃x22',asI .u64 v21'=some x22'∧
 ∃a23',x0=some a23'∧
 ∃x24',M14'.intAt .i64 a23'.block (a23'.off+1)=some x24'∧
 ∃v25',binV Try.prog .shl 5 3 (.int .u8 (IntKind.u8.wrap (IntKind.u64.wrap (((BitVec.ofInt (IntKind.bits .u64) x22' &&& BitVec.ofInt (IntKind.bits .u64) 1).toNat:Int))))) (.int .i64 x24')=some v25'∧
 ∃x26',asI .u8 v25'=some x26'∧
 ∃a27',idxA s16'.1 (s16'.2.1) 1 (IntKind.i64.wrap (((s18'.2.1:Int))-1))=some a27'∧
 ∃M28',M14'.put a27'.block a27'.off (.int .u8 (IntKind.u8.wrap (((BitVec.ofInt (IntKind.bits .u8) x20' ||| BitVec.ofInt (IntKind.bits .u8) x26').toNat:Int))))=some M28'∧
 A52_1 x0 x1 (IntKind.i64.wrap (x6-1)) M28' Q)∧
 (x2'≠0→
 ∃a29',x0=some a29'∧
 ∃x30',M.intAt .i64 a29'.block (a29'.off+1)=some x30'∧
 ∃a31',x0=some a31'∧
 ∃M32',M.put a31'.block (a31'.off+1) (.int .i64 (IntKind.i64.wrap (x30'-1)))=some M32'∧
 ∃a33',x0=some a33'∧
 ∃s34',M32'.slAt a33'.block a33'.off=some s34'∧
 ∃a35',x0=some a35'∧
 ∃s36',M32'.slAt a35'.block a35'.off=some s36'∧
 ∃a37',idxA s34'.1 (s34'.2.1) 1 (IntKind.i64.wrap (((s36'.2.1:Int))-1))=some a37'∧
 ∃x38',M32'.intAt .u8 a37'.block a37'.off=some x38'∧
 ∃v39',binV Try.prog .shr 80 3 (.int .u64 x1) (.int .i64 x6)=some v39'∧
 ∃x40',asI .u64 v39'=some x40'∧
 ∃a41',x0=some a41'∧
 ∃x42',M32'.intAt .i64 a41'.block (a41'.off+1)=some x42'∧
 ∃v43',binV Try.prog .shl 5 3 (.int .u8 (IntKind.u8.wrap (IntKind.u64.wrap (((BitVec.ofInt (IntKind.bits .u64) x40' &&& BitVec.ofInt (IntKind.bits .u64) 1).toNat:Int))))) (.int .i64 x42')=some v43'∧
 ∃x44',asI .u8 v43'=some x44'∧
 ∃a45',idxA s34'.1 (s34'.2.1) 1 (IntKind.i64.wrap (((s36'.2.1:Int))-1))=some a45'∧
 ∃M46',M32'.put a45'.block a45'.off (.int .u8 (IntKind.u8.wrap (((BitVec.ofInt (IntKind.bits .u8) x38' ||| BitVec.ofInt (IntKind.bits .u8) x44').toNat:Int))))=some M46'∧
 A52_1 x0 x1 (IntKind.i64.wrap (x6-1)) M46' Q)))∧
 (¬(x6≥0)→
 Q (.tuple #[]) M))):
 A52_1 x0 x1 x6 M Q:=by
  iterate 58 intro _
  refine Rn.seq k52_4 (Rn.seq k52_5 (Rn.region k52_6 (fun call K=>r52_1) (Rch.leaf ?_)))
  refine Rn.cnd (v:=decide (x6≥0)) ⟨c52_7,rfl,by kernel_rfl⟩ (fun h=>?_) (fun h=>?_)
  · replace H:=H.1 (of_decide_eq_true h)
    refine Rn.skip k52_8 (Rn.seq k52_9 (Rn.block k52_10 (Rn.seq k52_11 (Rn.seq k52_12 (Rn.region k52_13 (fun call K=>r52_3) (Rch.ex H fun a1' H=>Rch.ex H fun x2' H=>Rch.leaf ?_))))))
    refine Rn.cnd (v:=x2' == 0) ⟨c52_14,rfl,by kernel_rfl⟩ (fun h=>?_) (fun h=>?_)
    · replace H:=H.1 (eq_of_beq h)
      refine Rn.seq k52_15 (Rn.region k52_16 (fun call K=>r52_4) (Rch.ex H fun a3' H=>Rch.ex H fun s4' H=>Rch.ex H fun r5' H=>Rch.ex H fun s6' H=>Rch.ex H fun a7' H=>Rch.ex H fun M8' H=>Rch.leaf (Rn.region k52_17 (fun call K=>r52_5) (Rch.ex H fun a9' H=>Rch.ex H fun M10' H=>?_))))
      refine Rch.leaf (Rn.seq k52_18 (Rn.region k52_19 (fun call K=>r52_6) (Rch.ex H fun a11' H=>Rch.ex H fun x12' H=>Rch.ex H fun a13' H=>Rch.ex H fun M14' H=>Rch.leaf (Rn.regionD k52_20 (fun call K=>r52_7) (Rch.ex H fun a15' H=>Rch.ex H fun s16' H=>Rch.ex H fun a17' H=>?_)))))
      refine Rch.ex H fun s18' H=>Rch.ex H fun a19' H=>Rch.ex H fun x20' H=>Rch.ex H fun v21' H=>Rch.ex H fun x22' H=>Rch.ex H fun a23' H=>Rch.ex H fun x24' H=>Rch.ex H fun v25' H=>Rch.ex H fun x26' H=>Rch.ex H fun a27' H=>Rch.ex H fun M28' H=>Rch.leaf ?_
      refine Rn.blk (Rn.region k52_21 (fun call K=>r52_2) (Rch.leaf (Rn.lp ?_)))
      exact H ..
    · replace H:=H.2 (ne_of_beq_false h)
      refine Rn.skip k52_22 (Rn.seq k52_18 (Rn.region k52_19 (fun call K=>r52_6) (Rch.ex H fun a29' H=>Rch.ex H fun x30' H=>Rch.ex H fun a31' H=>Rch.ex H fun M32' H=>Rch.leaf (Rn.regionD k52_20 (fun call K=>r52_7) (Rch.ex H fun a33' H=>Rch.ex H fun s34' H=>Rch.ex H fun a35' H=>?_)))))
      refine Rch.ex H fun s36' H=>Rch.ex H fun a37' H=>Rch.ex H fun x38' H=>Rch.ex H fun v39' H=>Rch.ex H fun x40' H=>Rch.ex H fun a41' H=>Rch.ex H fun x42' H=>Rch.ex H fun v43' H=>Rch.ex H fun x44' H=>Rch.ex H fun a45' H=>Rch.ex H fun M46' H=>Rch.leaf ?_
      refine Rn.blk (Rn.region k52_21 (fun call K=>r52_2) (Rch.leaf (Rn.lp ?_)))
      exact H ..
  · replace H:=H.2 (of_decide_eq_false h)
    refine Rn.exit k52_23 rfl ?_
    exact Rn.fin e52 H
noncomputable abbrev P46 (p:List Nat):Code:=subC (codeOf Try.f46) p
noncomputable abbrev O46 (p:List Nat):Array Oper:=opsOf (subC (codeOf Try.f46) p)
theorem b46:Try.prog.funcs[46]?=some Try.f46∧(Orc.tab Try.prog).lookup 46=none:=⟨by kernel_rfl,by kernel_rfl⟩
theorem d46:Try.f46.body=some (P46 []):=by kernel_rfl
theorem t46 {Y0:Option Addr} {l0 y0:Nat}:#[.slice Y0 l0 y0] ++ Array.replicate (Try.f46.ntmps-(#[.slice Y0 l0 y0]:Array Value).size) undef=#[.slice Y0 l0 y0,undef,undef,undef,undef,undef,undef,undef]:=by kernel_rfl
theorem k46_0:P46 []=.seq (P46 [0]) (P46 [1]):=by kernel_rfl
theorem k46_1:P46 [0]=.region 0 (O46 [0]) false:=by kernel_rfl
theorem r46_0 {M:Mem} {call:CallM} {K:Array Value→Mem→R} :
 opsK Try.prog (fun _=>call) (O46 [0]) (O46 [0]).toList 0 #[g0,g1,g2,g3,g4,g5,g6,g7] M K=K #[g0,g1,.slice none 0 0,g3,g4,g5,g6,g7] M:=by kernel_rfl
theorem k46_2:P46 [1]=.seq (P46 [1,0]) (P46 [1,1]):=by kernel_rfl
theorem k46_3:P46 [1,0]=.seq (P46 [1,0,0]) (P46 [1,0,1]):=by kernel_rfl
theorem k46_4:P46 [1,0,0]=.region 1 (O46 [1,0,0]) false:=by kernel_rfl
theorem r46_1 {Y0:Option Addr} {l0 y0:Nat} {M:Mem} {call:CallM} {K:Array Value→Mem→R} :
 opsK Try.prog (fun _=>call) (O46 [1,0,0]) (O46 [1,0,0]).toList 0 #[.slice Y0 l0 y0,g1,g2,g3,g4,g5,g6,g7] M K=K #[.slice Y0 l0 y0,g1,g2,.slice Y0 l0 y0,.bool Y0.isNone,g5,g6,g7] M:=by kernel_rfl
theorem c46_5:P46 [1,0,1]=.cond (.tmp 4) (P46 [1,0,1,0]) (P46 [1,0,1,1]):=by kernel_rfl
theorem k46_6:P46 [1,0,1,0]=.seq (P46 [1,0,1,0,0]) (P46 [1,0,1,0,1]):=by kernel_rfl
theorem k46_7:P46 [1,0,1,0,0]=.region 2 (O46 [1,0,1,0,0]) false:=by kernel_rfl
theorem r46_2 {M:Mem} {call:CallM} {K:Array Value→Mem→R} :
 opsK Try.prog (fun _=>call) (O46 [1,0,1,0,0]) (O46 [1,0,1,0,0]).toList 0 #[g0,g1,g2,g3,g4,g5,g6,g7] M K=K #[g0,g1,.slice none 0 0,g3,g4,g5,g6,g7] M:=by kernel_rfl
theorem k46_8:P46 [1,0,1,0,1]=.ret:=by kernel_rfl
theorem e46 {M:Mem}:finish Try.prog Try.f46 #[g0,g1,g2,g3,g4,g5,g6,g7] M=some (g2,M):=by kernel_rfl
theorem k46_10:P46 [1,0,1,1]=.skip:=by kernel_rfl
theorem k46_11:P46 [1,1]=.seq (P46 [1,1,0]) (P46 [1,1,1]):=by kernel_rfl
theorem k46_12:P46 [1,1,0]=.region 3 (O46 [1,1,0]) false:=by kernel_rfl
theorem r46_3 {Y0:Option Addr} {l0 y0:Nat} {M:Mem} {call:CallM} {K:Array Value→Mem→R} :
 opsK Try.prog (fun _=>call) (O46 [1,1,0]) (O46 [1,1,0]).toList 0 #[.slice Y0 l0 y0,g1,g2,g3,g4,g5,g6,g7] M K=(appendP Try.prog #[46,46] (.slice (some ⟨2*M.nb.size,0,none⟩) 0 0) (.slice Y0 l0 y0) (M.new (.cells #[] 5))).bind fun r_1=>(asS r_1.1).bind fun s_2=>K #[.slice Y0 l0 y0,g1,.slice s_2.1 (s_2.2.1) (s_2.2.2),g3,g4,.slice (some ⟨2*M.nb.size,0,none⟩) 0 0,.slice Y0 l0 y0,.slice s_2.1 (s_2.2.1) (s_2.2.2)] r_1.2:=by kernel_rfl
theorem k46_13:P46 [1,1,1]=.ret:=by kernel_rfl
theorem w46_0 {Y0:Option Addr} {l0 y0:Nat} {M:Mem} {Q:Value→Mem→Prop} (H :
 ((Y0.isNone=true→
 Q (.slice none 0 0) M)∧
 (Y0.isNone=false→
 ∃r1',appendP Try.prog #[46,46] (.slice (some ⟨2*M.nb.size,0,none⟩) 0 0) (.slice Y0 l0 y0) (M.new (.cells #[] 5))=some r1'∧
 ∃s2',asS r1'.1=some s2'∧
 Q (.slice s2'.1 (s2'.2.1) (s2'.2.2)) r1'.2))):
 Cn Try.prog 46 #[.slice Y0 l0 y0] M Q:=by
  refine Cn.of b46 d46 t46 ?_
  refine Rn.seq k46_0 (Rn.region k46_1 (fun call K=>r46_0) (Rch.leaf (Rn.seq k46_2 (Rn.seq k46_3 (Rn.region k46_4 (fun call K=>r46_1) (Rch.leaf ?_))))))
  refine Rn.cnd (v:=Y0.isNone) ⟨c46_5,rfl,by kernel_rfl⟩ (fun h=>?_) (fun h=>?_)
  · replace H:=H.1 (h)
    refine Rn.seq k46_6 (Rn.region k46_7 (fun call K=>r46_2) (Rch.leaf ?_))
    exact Rn.ret k46_8 e46 H
  · replace H:=H.2 (h)
    refine Rn.skip k46_10 (Rn.seq k46_11 (Rn.region k46_12 (fun call K=>r46_3) (Rch.ex H fun r1' H=>Rch.ex H fun s2' H=>Rch.leaf ?_)))
    exact Rn.ret k46_13 e46 H
noncomputable abbrev P42 (p:List Nat):Code:=subC (codeOf Try.f42) p
noncomputable abbrev O42 (p:List Nat):Array Oper:=opsOf (subC (codeOf Try.f42) p)
theorem b42:Try.prog.funcs[42]?=some Try.f42∧(Orc.tab Try.prog).lookup 42=none:=⟨by kernel_rfl,by kernel_rfl⟩
theorem d42:Try.f42.body=some (P42 []):=by kernel_rfl
theorem t42 {Y0:Option Addr} {l0 y0:Nat}:#[.slice Y0 l0 y0] ++ Array.replicate (Try.f42.ntmps-(#[.slice Y0 l0 y0]:Array Value).size) undef=#[.slice Y0 l0 y0,undef,undef,undef,undef,undef,undef]:=by kernel_rfl
theorem k42_0:P42 []=.seq (P42 [0]) (P42 [1]):=by kernel_rfl
theorem k42_1:P42 [0]=.region 0 (O42 [0]) false:=by kernel_rfl
theorem r42_0 {M:Mem} {call:CallM} {K:Array Value→Mem→R} :
 opsK Try.prog (fun _=>call) (O42 [0]) (O42 [0]).toList 0 #[g0,g1,g2,g3,g4,g5,g6] M K=K #[g0,g1,.pointer none,g3,g4,g5,g6] M:=by kernel_rfl
theorem k42_2:P42 [1]=.seq (P42 [1,0]) (P42 [1,1]):=by kernel_rfl
theorem k42_3:P42 [1,0]=.region 1 (O42 [1,0]) false:=by kernel_rfl
theorem r42_1 {Y0:Option Addr} {l0 y0:Nat} {M:Mem} {call:CallM} {K:Array Value→Mem→R} :
 opsK Try.prog (fun _=>call) (O42 [1,0]) (O42 [1,0]).toList 0 #[.slice Y0 l0 y0,g1,g2,g3,g4,g5,g6] M K=(call 46 #[.slice Y0 l0 y0] M).bind fun r_1=>(asS r_1.1).bind fun s_2=>K #[.slice Y0 l0 y0,g1,.pointer (some ⟨2*r_1.2.nb.size,0,none⟩),.slice Y0 l0 y0,.slice s_2.1 (s_2.2.1) (s_2.2.2),.agg #[.slice s_2.1 (s_2.2.1) (s_2.2.2),.int .i64 0,.bool true],.pointer (some ⟨2*r_1.2.nb.size,0,none⟩)] (r_1.2.new (.cells #[.slice s_2.1 (s_2.2.1) (s_2.2.2),.int .i64 0,.bool true] 89)):=by kernel_rfl
theorem k42_4:P42 [1,1]=.ret:=by kernel_rfl
theorem e42 {M:Mem}:finish Try.prog Try.f42 #[g0,g1,g2,g3,g4,g5,g6] M=some (g2,M):=by kernel_rfl
theorem w42_0 {Y0:Option Addr} {l0 y0:Nat} {M:Mem} {Q:Value→Mem→Prop} (H :
 Cn Try.prog 46 #[.slice Y0 l0 y0] M fun v1' N1'=>
 ∃s2',asS v1'=some s2'∧
 Q (.pointer (some ⟨2*N1'.nb.size,0,none⟩)) (N1'.new (.cells #[.slice s2'.1 (s2'.2.1) (s2'.2.2),.int .i64 0,.bool true] 89))):
 Cn Try.prog 42 #[.slice Y0 l0 y0] M Q:=by
  refine Cn.of b42 d42 t42 ?_
  refine Rn.seq k42_0 (Rn.region k42_1 (fun call K=>r42_0) (Rch.leaf (Rn.seq k42_2 (Rn.region k42_3 (fun call K=>r42_1) (Rch.call H fun v1' N1' H=>Rch.ex H fun s2' H=>Rch.leaf ?_)))))
  exact Rn.ret k42_4 e42 H
noncomputable abbrev P43 (p:List Nat):Code:=subC (codeOf Try.f43) p
noncomputable abbrev O43 (p:List Nat):Array Oper:=opsOf (subC (codeOf Try.f43) p)
theorem b43:Try.prog.funcs[43]?=some Try.f43∧(Orc.tab Try.prog).lookup 43=none:=⟨by kernel_rfl,by kernel_rfl⟩
theorem d43:Try.f43.body=some (P43 []):=by kernel_rfl
theorem t43 {x0:Option Addr}:#[.pointer x0] ++ Array.replicate (Try.f43.ntmps-(#[.pointer x0]:Array Value).size) undef=#[.pointer x0,undef,undef,undef,undef,undef,undef,undef,undef,undef,undef,undef,undef,undef,undef,undef,undef,undef,undef,undef,undef,undef,undef,undef,undef,undef,undef,undef,undef,undef,undef,undef,undef,undef,undef,undef,undef,undef,undef,undef,undef,undef,undef,undef,undef,undef,undef,undef,undef,undef,undef,undef,undef,undef,undef,undef,undef,undef,undef,undef,undef,undef,undef,undef,undef,undef,undef,undef]:=by kernel_rfl
theorem k43_0:P43 []=.seq (P43 [0]) (P43 [1]):=by kernel_rfl
theorem k43_1:P43 [0]=.region 0 (O43 [0]) false:=by kernel_rfl
theorem r43_0 {M:Mem} {call:CallM} {K:Array Value→Mem→R} :
 opsK Try.prog (fun _=>call) (O43 [0]) (O43 [0]).toList 0 #[g0,g1,g2,g3,g4,g5,g6,g7,g8,g9,gA,gB,gC,gD,gE,gF,gG,gH,gI,gJ,gK,gL,gM,gN,gO,gP,gQ,gR,gS,gT,gU,gV,gW,gX,gY,gZ,hA,hB,hC,hD,hE,hF,hG,hH,hI,hJ,hK,hL,hM,hN,hO,hP,hQ,hR,hS,hT,hU,hV,hW,hX,hY,hZ,h0,h1,h2,h3,h4,h5] M K=K #[g0,g1,.int .u32 0,.int .i64 0,g4,g5,g6,g7,g8,g9,gA,gB,gC,gD,gE,gF,gG,gH,gI,gJ,gK,gL,gM,gN,gO,gP,gQ,gR,gS,gT,gU,gV,gW,gX,gY,gZ,hA,hB,hC,hD,hE,hF,hG,hH,hI,hJ,hK,hL,hM,hN,hO,hP,hQ,hR,hS,hT,hU,hV,hW,hX,hY,hZ,h0,h1,h2,h3,h4,h5] M:=by kernel_rfl
theorem k43_2:P43 [1]=.seq (P43 [1,0]) (P43 [1,1]):=by kernel_rfl
theorem k43_3:P43 [1,0]=.seq (P43 [1,0,0]) (P43 [1,0,1]):=by kernel_rfl
theorem k43_4:P43 [1,0,0]=.region 1 (O43 [1,0,0]) false:=by kernel_rfl
theorem r43_1 {x0:Option Addr} {M:Mem} {call:CallM} {K:Array Value→Mem→R} :
 opsK Try.prog (fun _=>call) (O43 [1,0,0]) (O43 [1,0,0]).toList 0 #[.pointer x0,g1,g2,g3,g4,g5,g6,g7,g8,g9,gA,gB,gC,gD,gE,gF,gG,gH,gI,gJ,gK,gL,gM,gN,gO,gP,gQ,gR,gS,gT,gU,gV,gW,gX,gY,gZ,hA,hB,hC,hD,hE,hF,hG,hH,hI,hJ,hK,hL,hM,hN,hO,hP,hQ,hR,hS,hT,hU,hV,hW,hX,hY,hZ,h0,h1,h2,h3,h4,h5] M K=(call 55 #[.pointer x0] M).bind fun r_1=>(asB r_1.1).bind fun b_2=>K #[.pointer x0,g1,g2,g3,g4,g5,g6,.pointer x0,.bool b_2,.bool (!b_2),gA,gB,gC,gD,gE,gF,gG,gH,gI,gJ,gK,gL,gM,gN,gO,gP,gQ,gR,gS,gT,gU,gV,gW,gX,gY,gZ,hA,hB,hC,hD,hE,hF,hG,hH,hI,hJ,hK,hL,hM,hN,hO,hP,hQ,hR,hS,hT,hU,hV,hW,hX,hY,hZ,h0,h1,h2,h3,h4,h5] r_1.2:=by kernel_rfl
theorem c43_5:P43 [1,0,1]=.cond (.tmp 9) (P43 [1,0,1,0]) (P43 [1,0,1,1]):=by kernel_rfl
theorem k43_6:P43 [1,0,1,0]=.seq (P43 [1,0,1,0,0]) (P43 [1,0,1,0,1]):=by kernel_rfl
theorem k43_7:P43 [1,0,1,0,0]=.region 2 (O43 [1,0,1,0,0]) false:=by kernel_rfl
theorem r43_2 {M:Mem} {call:CallM} {K:Array Value→Mem→R} :
 opsK Try.prog (fun _=>call) (O43 [1,0,1,0,0]) (O43 [1,0,1,0,0]).toList 0 #[g0,g1,g2,g3,g4,g5,g6,g7,g8,g9,gA,gB,gC,gD,gE,gF,gG,gH,gI,gJ,gK,gL,gM,gN,gO,gP,gQ,gR,gS,gT,gU,gV,gW,gX,gY,gZ,hA,hB,hC,hD,hE,hF,hG,hH,hI,hJ,hK,hL,hM,hN,hO,hP,hQ,hR,hS,hT,hU,hV,hW,hX,hY,hZ,h0,h1,h2,h3,h4,h5] M K=K #[g0,g1,.int .u32 0,.int .i64 1,g4,g5,g6,g7,g8,g9,gA,gB,gC,gD,gE,gF,gG,gH,gI,gJ,gK,gL,gM,gN,gO,gP,gQ,gR,gS,gT,gU,gV,gW,gX,gY,gZ,hA,hB,hC,hD,hE,hF,hG,hH,hI,hJ,hK,hL,hM,hN,hO,hP,hQ,hR,hS,hT,hU,hV,hW,hX,hY,hZ,h0,h1,h2,h3,h4,h5] M:=by kernel_rfl
theorem k43_8:P43 [1,0,1,0,1]=.ret:=by kernel_rfl
theorem e43 {M:Mem}:finish Try.prog Try.f43 #[g0,g1,g2,g3,g4,g5,g6,g7,g8,g9,gA,gB,gC,gD,gE,gF,gG,gH,gI,gJ,gK,gL,gM,gN,gO,gP,gQ,gR,gS,gT,gU,gV,gW,gX,gY,gZ,hA,hB,hC,hD,hE,hF,hG,hH,hI,hJ,hK,hL,hM,hN,hO,hP,hQ,hR,hS,hT,hU,hV,hW,hX,hY,hZ,h0,h1,h2,h3,h4,h5] M=some (.tuple #[g2,g3],M):=by kernel_rfl
theorem k43_10:P43 [1,0,1,1]=.skip:=by kernel_rfl
theorem k43_11:P43 [1,1]=.seq (P43 [1,1,0]) (P43 [1,1,1]):=by kernel_rfl
theorem k43_12:P43 [1,1,0]=.seq (P43 [1,1,0,0]) (P43 [1,1,0,1]):=by kernel_rfl
theorem k43_13:P43 [1,1,0,0]=.region 3 (O43 [1,1,0,0]) false:=by kernel_rfl
theorem r43_3 {x0:Option Addr} {M:Mem} {call:CallM} {K:Array Value→Mem→R} :
 opsK Try.prog (fun _=>call) (O43 [1,1,0,0]) (O43 [1,1,0,0]).toList 0 #[.pointer x0,g1,g2,g3,g4,g5,g6,g7,g8,g9,gA,gB,gC,gD,gE,gF,gG,gH,gI,gJ,gK,gL,gM,gN,gO,gP,gQ,gR,gS,gT,gU,gV,gW,gX,gY,gZ,hA,hB,hC,hD,hE,hF,hG,hH,hI,hJ,hK,hL,hM,hN,hO,hP,hQ,hR,hS,hT,hU,hV,hW,hX,hY,hZ,h0,h1,h2,h3,h4,h5] M K=(x0).bind fun a_1=>(M.intAt .i64 a_1.block (a_1.off+1)).bind fun x_2=>K #[.pointer x0,g1,g2,g3,g4,g5,g6,g7,g8,g9,.pointer x0,.pointer (some a_1),.pointer (some ⟨a_1.block,a_1.off+1,none⟩),.int .i64 x_2,.int .i64 (x_2.tmod 8),.bool ((x_2.tmod 8) != 0),gG,gH,gI,gJ,gK,gL,gM,gN,gO,gP,gQ,gR,gS,gT,gU,gV,gW,gX,gY,gZ,hA,hB,hC,hD,hE,hF,hG,hH,hI,hJ,hK,hL,hM,hN,hO,hP,hQ,hR,hS,hT,hU,hV,hW,hX,hY,hZ,h0,h1,h2,h3,h4,h5] M:=by kernel_rfl
theorem c43_14:P43 [1,1,0,1]=.cond (.tmp 15) (P43 [1,1,0,1,0]) (P43 [1,1,0,1,1]):=by kernel_rfl
theorem k43_15:P43 [1,1,0,1,0]=.seq (P43 [1,1,0,1,0,0]) (P43 [1,1,0,1,0,1]):=by kernel_rfl
theorem k43_16:P43 [1,1,0,1,0,0]=.region 4 (O43 [1,1,0,1,0,0]) false:=by kernel_rfl
theorem r43_4 {M:Mem} {call:CallM} {K:Array Value→Mem→R} :
 opsK Try.prog (fun _=>call) (O43 [1,1,0,1,0,0]) (O43 [1,1,0,1,0,0]).toList 0 #[g0,g1,g2,g3,g4,g5,g6,g7,g8,g9,gA,gB,gC,gD,gE,gF,gG,gH,gI,gJ,gK,gL,gM,gN,gO,gP,gQ,gR,gS,gT,gU,gV,gW,gX,gY,gZ,hA,hB,hC,hD,hE,hF,hG,hH,hI,hJ,hK,hL,hM,hN,hO,hP,hQ,hR,hS,hT,hU,hV,hW,hX,hY,hZ,h0,h1,h2,h3,h4,h5] M K=K #[g0,g1,.int .u32 0,.int .i64 2,g4,g5,g6,g7,g8,g9,gA,gB,gC,gD,gE,gF,gG,gH,gI,gJ,gK,gL,gM,gN,gO,gP,gQ,gR,gS,gT,gU,gV,gW,gX,gY,gZ,hA,hB,hC,hD,hE,hF,hG,hH,hI,hJ,hK,hL,hM,hN,hO,hP,hQ,hR,hS,hT,hU,hV,hW,hX,hY,hZ,h0,h1,h2,h3,h4,h5] M:=by kernel_rfl
theorem k43_17:P43 [1,1,0,1,0,1]=.ret:=by kernel_rfl
theorem k43_18:P43 [1,1,0,1,1]=.skip:=by kernel_rfl
theorem k43_19:P43 [1,1,1]=.seq (P43 [1,1,1,0]) (P43 [1,1,1,1]):=by kernel_rfl
theorem k43_20:P43 [1,1,1,0]=.region 5 (O43 [1,1,1,0]) false:=by kernel_rfl
theorem r43_5 {M:Mem} {call:CallM} {K:Array Value→Mem→R} :
 opsK Try.prog (fun _=>call) (O43 [1,1,1,0]) (O43 [1,1,1,0]).toList 0 #[g0,g1,g2,g3,g4,g5,g6,g7,g8,g9,gA,gB,gC,gD,gE,gF,gG,gH,gI,gJ,gK,gL,gM,gN,gO,gP,gQ,gR,gS,gT,gU,gV,gW,gX,gY,gZ,hA,hB,hC,hD,hE,hF,hG,hH,hI,hJ,hK,hL,hM,hN,hO,hP,hQ,hR,hS,hT,hU,hV,hW,hX,hY,hZ,h0,h1,h2,h3,h4,h5] M K=K #[g0,g1,g2,g3,.int .u32 0,g5,g6,g7,g8,g9,gA,gB,gC,gD,gE,gF,gG,gH,gI,gJ,gK,gL,gM,gN,gO,gP,gQ,gR,gS,gT,gU,gV,gW,gX,gY,gZ,hA,hB,hC,hD,hE,hF,hG,hH,hI,hJ,hK,hL,hM,hN,hO,hP,hQ,hR,hS,hT,hU,hV,hW,hX,hY,hZ,h0,h1,h2,h3,h4,h5] M:=by kernel_rfl
theorem k43_21:P43 [1,1,1,1]=.seq (P43 [1,1,1,1,0]) (P43 [1,1,1,1,1]):=by kernel_rfl
theorem k43_22:P43 [1,1,1,1,0]=.seq (P43 [1,1,1,1,0,0]) (P43 [1,1,1,1,0,1]):=by kernel_rfl
theorem k43_23:P43 [1,1,1,1,0,0]=.region 6 (O43 [1,1,1,1,0,0]) true∧drawOk (O43 [1,1,1,1,0,0])=true:=⟨by kernel_rfl,by kernel_rfl⟩
theorem r43_6 {x0:Option Addr} {M:Mem} {call:CallM} {K:Array Value→Mem→R} :
    opsI Try.prog (callAt call (O43 [1,1,1,1,0,0])) (O43 [1,1,1,1,0,0]) (ordOf (O43 [1,1,1,1,0,0])) [] #[.pointer x0,g1,g2,g3,g4,g5,g6,g7,g8,g9,gA,gB,gC,gD,gE,gF,gG,gH,gI,gJ,gK,gL,gM,gN,gO,gP,gQ,gR,gS,gT,gU,gV,gW,gX,gY,gZ,hA,hB,hC,hD,hE,hF,hG,hH,hI,hJ,hK,hL,hM,hN,hO,hP,hQ,hR,hS,hT,hU,hV,hW,hX,hY,hZ,h0,h1,h2,h3,h4,h5] M K=(x0).bind fun a_1=>(M.slAt a_1.block a_1.off).bind fun s_2=>(x0).bind fun a_3=>(M.intAt .i64 a_3.block (a_3.off+1)).bind fun x_4=>(sliceP Try.prog 46 (.slice s_2.1 (s_2.2.1) (s_2.2.2)) (some (.int .i64 (IntKind.i64.wrap (x_4.tdiv 8)))) none none).bind fun v_5=>(asS v_5).bind fun s_6=>K #[.pointer x0,g1,g2,g3,g4,g5,g6,g7,g8,g9,gA,gB,gC,gD,gE,gF,.pointer x0,.pointer (some a_1),.pointer (some ⟨a_1.block,a_1.off,none⟩),.slice s_2.1 (s_2.2.1) (s_2.2.2),.pointer x0,.pointer (some a_3),.pointer (some ⟨a_3.block,a_3.off+1,none⟩),.int .i64 x_4,.int .i64 (IntKind.i64.wrap (x_4.tdiv 8)),.slice s_6.1 (s_6.2.1) (s_6.2.2),.int .i64 ((s_6.2.1:Int)),.int .i64 0,gS,gT,gU,gV,gW,gX,gY,gZ,hA,hB,hC,hD,hE,hF,hG,hH,hI,hJ,hK,hL,hM,hN,hO,hP,hQ,hR,hS,hT,hU,hV,hW,hX,hY,hZ,h0,h1,h2,h3,h4,h5] M:=by kernel_rfl
theorem k43_24:P43 [1,1,1,1,0,1]=.block 0 (P43 [1,1,1,1,0,1,0]):=by kernel_rfl
theorem k43_25:P43 [1,1,1,1,0,1,0]=.loop (P43 [1,1,1,1,0,1,0,0]):=by kernel_rfl
theorem k43_26:P43 [1,1,1,1,0,1,0,0]=.seq (P43 [1,1,1,1,0,1,0,0,0]) (P43 [1,1,1,1,0,1,0,0,1]):=by kernel_rfl
theorem k43_27:P43 [1,1,1,1,0,1,0,0,0]=.region 7 (O43 [1,1,1,1,0,1,0,0,0]) false:=by kernel_rfl
theorem r43_7 {x26 x27:Int} {M:Mem} {call:CallM} {K:Array Value→Mem→R} :
 opsK Try.prog (fun _=>call) (O43 [1,1,1,1,0,1,0,0,0]) (O43 [1,1,1,1,0,1,0,0,0]).toList 0 #[g0,g1,g2,g3,g4,g5,g6,g7,g8,g9,gA,gB,gC,gD,gE,gF,gG,gH,gI,gJ,gK,gL,gM,gN,gO,gP,.int .i64 x26,.int .i64 x27,gS,gT,gU,gV,gW,gX,gY,gZ,hA,hB,hC,hD,hE,hF,hG,hH,hI,hJ,hK,hL,hM,hN,hO,hP,hQ,hR,hS,hT,hU,hV,hW,hX,hY,hZ,h0,h1,h2,h3,h4,h5] M K=K #[g0,g1,g2,g3,g4,g5,g6,g7,g8,g9,gA,gB,gC,gD,gE,gF,gG,gH,gI,gJ,gK,gL,gM,gN,gO,gP,.int .i64 x26,.int .i64 x27,.bool (decide (x27<x26)),gT,gU,gV,gW,gX,gY,gZ,hA,hB,hC,hD,hE,hF,hG,hH,hI,hJ,hK,hL,hM,hN,hO,hP,hQ,hR,hS,hT,hU,hV,hW,hX,hY,hZ,h0,h1,h2,h3,h4,h5] M:=by kernel_rfl
theorem k43_28:P43 [1,1,1,1,0,1,0,0,1]=.seq (P43 [1,1,1,1,0,1,0,0,1,0]) (P43 [1,1,1,1,0,1,0,0,1,1]):=by kernel_rfl
theorem c43_29:P43 [1,1,1,1,0,1,0,0,1,0]=.cond (.tmp 28) (P43 [1,1,1,1,0,1,0,0,1,0,0]) (P43 [1,1,1,1,0,1,0,0,1,0,1]):=by kernel_rfl
theorem k43_30:P43 [1,1,1,1,0,1,0,0,1,0,0]=.skip:=by kernel_rfl
theorem k43_31:P43 [1,1,1,1,0,1,0,0,1,1]=.seq (P43 [1,1,1,1,0,1,0,0,1,1,0]) (P43 [1,1,1,1,0,1,0,0,1,1,1]):=by kernel_rfl
theorem k43_32:P43 [1,1,1,1,0,1,0,0,1,1,0]=.block 1 (P43 [1,1,1,1,0,1,0,0,1,1,0,0]):=by kernel_rfl
theorem k43_33:P43 [1,1,1,1,0,1,0,0,1,1,0,0]=.seq (P43 [1,1,1,1,0,1,0,0,1,1,0,0,0]) (P43 [1,1,1,1,0,1,0,0,1,1,0,0,1]):=by kernel_rfl
theorem k43_34:P43 [1,1,1,1,0,1,0,0,1,1,0,0,0]=.region 8 (O43 [1,1,1,1,0,1,0,0,1,1,0,0,0]) false:=by kernel_rfl
theorem r43_8 {Y25:Option Addr} {l25 y25:Nat} {x27:Int} {M:Mem} {call:CallM} {K:Array Value→Mem→R} :
 opsK Try.prog (fun _=>call) (O43 [1,1,1,1,0,1,0,0,1,1,0,0,0]) (O43 [1,1,1,1,0,1,0,0,1,1,0,0,0]).toList 0 #[g0,g1,g2,g3,g4,g5,g6,g7,g8,g9,gA,gB,gC,gD,gE,gF,gG,gH,gI,gJ,gK,gL,gM,gN,gO,.slice Y25 l25 y25,gQ,.int .i64 x27,gS,gT,gU,gV,gW,gX,gY,gZ,hA,hB,hC,hD,hE,hF,hG,hH,hI,hJ,hK,hL,hM,hN,hO,hP,hQ,hR,hS,hT,hU,hV,hW,hX,hY,hZ,h0,h1,h2,h3,h4,h5] M K=(idxA Y25 l25 1 x27).bind fun a_1=>(M.intAt .u8 a_1.block a_1.off).bind fun x_2=>K #[g0,g1,g2,g3,g4,.int .i64 x27,.int .u8 x_2,g7,g8,g9,gA,gB,gC,gD,gE,gF,gG,gH,gI,gJ,gK,gL,gM,gN,gO,.slice Y25 l25 y25,gQ,.int .i64 x27,gS,.int .i64 x27,.pointer (some a_1),.int .u8 x_2,gW,gX,gY,gZ,hA,hB,hC,hD,hE,hF,hG,hH,hI,hJ,hK,hL,hM,hN,hO,hP,hQ,hR,hS,hT,hU,hV,hW,hX,hY,hZ,h0,h1,h2,h3,h4,h5] M:=by kernel_rfl
theorem k43_35:P43 [1,1,1,1,0,1,0,0,1,1,0,0,1]=.seq (P43 [1,1,1,1,0,1,0,0,1,1,0,0,1,0]) (P43 [1,1,1,1,0,1,0,0,1,1,0,0,1,1]):=by kernel_rfl
theorem k43_36:P43 [1,1,1,1,0,1,0,0,1,1,0,0,1,0]=.seq (P43 [1,1,1,1,0,1,0,0,1,1,0,0,1,0,0]) (P43 [1,1,1,1,0,1,0,0,1,1,0,0,1,0,1]):=by kernel_rfl
theorem k43_37:P43 [1,1,1,1,0,1,0,0,1,1,0,0,1,0,0]=.region 9 (O43 [1,1,1,1,0,1,0,0,1,1,0,0,1,0,0]) false:=by kernel_rfl
theorem r43_9 {x5 x6:Int} {M:Mem} {call:CallM} {K:Array Value→Mem→R} :
 opsK Try.prog (fun _=>call) (O43 [1,1,1,1,0,1,0,0,1,1,0,0,1,0,0]) (O43 [1,1,1,1,0,1,0,0,1,1,0,0,1,0,0]).toList 0 #[g0,g1,g2,g3,g4,.int .i64 x5,.int .u8 x6,g7,g8,g9,gA,gB,gC,gD,gE,gF,gG,gH,gI,gJ,gK,gL,gM,gN,gO,gP,gQ,gR,gS,gT,gU,gV,gW,gX,gY,gZ,hA,hB,hC,hD,hE,hF,hG,hH,hI,hJ,hK,hL,hM,hN,hO,hP,hQ,hR,hS,hT,hU,hV,hW,hX,hY,hZ,h0,h1,h2,h3,h4,h5] M K=withK (fun w34 w35 w36 w37 w38 w39 w40 w41 w42 w43 w44 w45 M=>K #[g0,g1,g2,g3,g4,.int .i64 x5,.int .u8 x6,g7,g8,g9,gA,gB,gC,gD,gE,gF,gG,gH,gI,gJ,gK,gL,gM,gN,gO,gP,gQ,gR,gS,gT,gU,gV,.int .i64 x5,.bool (x5 == 4),w34,w35,w36,w37,w38,w39,w40,w41,w42,w43,w44,w45,hK,hL,hM,hN,hO,hP,hQ,hR,hS,hT,hU,hV,hW,hX,hY,hZ,h0,h1,h2,h3,h4,h5] M) fun k=>cond (x5 == 4) (cond (decide (x6>15)) (k (.bool true) (.int .u8 x6) (.bool (decide (x6>15))) (.bool (decide (x6>15))) (.bool true) undef undef undef undef undef undef (.bool true) M) (cond (decide (x5>0)) (k (.bool true) (.int .u8 x6) (.bool (decide (x6>15))) (.bool (decide (x6>15))) (.bool false) (.int .i64 x5) (.bool (decide (x5>0))) (.bool true) (.int .u8 x6) (.bool (x6 == 0)) (.bool (x6 == 0)) (.bool (x6 == 0)) M) (k (.bool true) (.int .u8 x6) (.bool (decide (x6>15))) (.bool (decide (x6>15))) (.bool false) (.int .i64 x5) (.bool (decide (x5>0))) (.bool false) undef undef (.bool false) (.bool false) M))) (cond (decide (x5>0)) (k (.bool false) undef undef (.bool false) (.bool false) (.int .i64 x5) (.bool (decide (x5>0))) (.bool true) (.int .u8 x6) (.bool (x6 == 0)) (.bool (x6 == 0)) (.bool (x6 == 0)) M) (k (.bool false) undef undef (.bool false) (.bool false) (.int .i64 x5) (.bool (decide (x5>0))) (.bool false) undef undef (.bool false) (.bool false) M)):=by kernel_rfl
theorem k43_38:P43 [1,1,1,1,0,1,0,0,1,0,1]=.exit 0:=by kernel_rfl
theorem k43_39:P43 [1,1,1,1,1]=.seq (P43 [1,1,1,1,1,0]) (P43 [1,1,1,1,1,1]):=by kernel_rfl
theorem k43_40:P43 [1,1,1,1,1,0]=.region 16 (O43 [1,1,1,1,1,0]) false:=by kernel_rfl
theorem r43_16 {M:Mem} {call:CallM} {K:Array Value→Mem→R} :
 opsK Try.prog (fun _=>call) (O43 [1,1,1,1,1,0]) (O43 [1,1,1,1,1,0]).toList 0 #[g0,g1,g2,g3,g4,g5,g6,g7,g8,g9,gA,gB,gC,gD,gE,gF,gG,gH,gI,gJ,gK,gL,gM,gN,gO,gP,gQ,gR,gS,gT,gU,gV,gW,gX,gY,gZ,hA,hB,hC,hD,hE,hF,hG,hH,hI,hJ,hK,hL,hM,hN,hO,hP,hQ,hR,hS,hT,hU,hV,hW,hX,hY,hZ,h0,h1,h2,h3,h4,h5] M K=K #[g0,g1,.int .u32 0,.int .i64 3,g4,g5,g6,g7,g8,g9,gA,gB,gC,gD,gE,gF,gG,gH,gI,gJ,gK,gL,gM,gN,gO,gP,gQ,gR,gS,gT,gU,gV,gW,gX,gY,gZ,hA,hB,hC,hD,hE,hF,hG,hH,hI,hJ,hK,hL,hM,hN,hO,hP,hQ,hR,hS,hT,hU,hV,hW,hX,hY,hZ,h0,h1,h2,h3,h4,h5] M:=by kernel_rfl
theorem k43_41:P43 [1,1,1,1,1,1]=.ret:=by kernel_rfl
theorem c43_42:P43 [1,1,1,1,0,1,0,0,1,1,0,0,1,0,1]=.cond (.tmp 45) (P43 [1,1,1,1,0,1,0,0,1,1,0,0,1,0,1,0]) (P43 [1,1,1,1,0,1,0,0,1,1,0,0,1,0,1,1]):=by kernel_rfl
theorem k43_43:P43 [1,1,1,1,0,1,0,0,1,1,0,0,1,0,1,0]=.seq (P43 [1,1,1,1,0,1,0,0,1,1,0,0,1,0,1,0,0]) (P43 [1,1,1,1,0,1,0,0,1,1,0,0,1,0,1,0,1]):=by kernel_rfl
theorem k43_44:P43 [1,1,1,1,0,1,0,0,1,1,0,0,1,0,1,0,0]=.region 10 (O43 [1,1,1,1,0,1,0,0,1,1,0,0,1,0,1,0,0]) false:=by kernel_rfl
theorem r43_10 {M:Mem} {call:CallM} {K:Array Value→Mem→R} :
 opsK Try.prog (fun _=>call) (O43 [1,1,1,1,0,1,0,0,1,1,0,0,1,0,1,0,0]) (O43 [1,1,1,1,0,1,0,0,1,1,0,0,1,0,1,0,0]).toList 0 #[g0,g1,g2,g3,g4,g5,g6,g7,g8,g9,gA,gB,gC,gD,gE,gF,gG,gH,gI,gJ,gK,gL,gM,gN,gO,gP,gQ,gR,gS,gT,gU,gV,gW,gX,gY,gZ,hA,hB,hC,hD,hE,hF,hG,hH,hI,hJ,hK,hL,hM,hN,hO,hP,hQ,hR,hS,hT,hU,hV,hW,hX,hY,hZ,h0,h1,h2,h3,h4,h5] M K=K #[g0,g1,.int .u32 0,.int .i64 4,g4,g5,g6,g7,g8,g9,gA,gB,gC,gD,gE,gF,gG,gH,gI,gJ,gK,gL,gM,gN,gO,gP,gQ,gR,gS,gT,gU,gV,gW,gX,gY,gZ,hA,hB,hC,hD,hE,hF,hG,hH,hI,hJ,hK,hL,hM,hN,hO,hP,hQ,hR,hS,hT,hU,hV,hW,hX,hY,hZ,h0,h1,h2,h3,h4,h5] M:=by kernel_rfl
theorem k43_45:P43 [1,1,1,1,0,1,0,0,1,1,0,0,1,0,1,0,1]=.ret:=by kernel_rfl
theorem k43_46:P43 [1,1,1,1,0,1,0,0,1,1,0,0,1,0,1,1]=.skip:=by kernel_rfl
theorem k43_47:P43 [1,1,1,1,0,1,0,0,1,1,0,0,1,1]=.seq (P43 [1,1,1,1,0,1,0,0,1,1,0,0,1,1,0]) (P43 [1,1,1,1,0,1,0,0,1,1,0,0,1,1,1]):=by kernel_rfl
theorem k43_48:P43 [1,1,1,1,0,1,0,0,1,1,0,0,1,1,0]=.region 11 (O43 [1,1,1,1,0,1,0,0,1,1,0,0,1,1,0]) false:=by kernel_rfl
theorem r43_11 {x4 x5 x6:Int} {M:Mem} {call:CallM} {K:Array Value→Mem→R} :
 opsK Try.prog (fun _=>call) (O43 [1,1,1,1,0,1,0,0,1,1,0,0,1,1,0]) (O43 [1,1,1,1,0,1,0,0,1,1,0,0,1,1,0]).toList 0 #[g0,g1,g2,g3,.int .u32 x4,.int .i64 x5,.int .u8 x6,g7,g8,g9,gA,gB,gC,gD,gE,gF,gG,gH,gI,gJ,gK,gL,gM,gN,gO,gP,gQ,gR,gS,gT,gU,gV,gW,gX,gY,gZ,hA,hB,hC,hD,hE,hF,hG,hH,hI,hJ,hK,hL,hM,hN,hO,hP,hQ,hR,hS,hT,hU,hV,hW,hX,hY,hZ,h0,h1,h2,h3,h4,h5] M K=(binV Try.prog .shl 69 3 (.int .u32 (IntKind.u32.wrap (IntKind.u8.wrap (((BitVec.ofInt (IntKind.bits .u8) x6 &&& BitVec.ofInt (IntKind.bits .u8) 127).toNat:Int))))) (.int .i64 (IntKind.i64.wrap (7*x5)))).bind fun v_1=>(asI .u32 v_1).bind fun x_2=>K #[g0,g1,g2,g3,.int .u32 (IntKind.u32.wrap (((BitVec.ofInt (IntKind.bits .u32) x4 ||| BitVec.ofInt (IntKind.bits .u32) x_2).toNat:Int))),.int .i64 x5,.int .u8 x6,g7,g8,g9,gA,gB,gC,gD,gE,gF,gG,gH,gI,gJ,gK,gL,gM,gN,gO,gP,gQ,gR,gS,gT,gU,gV,gW,gX,gY,gZ,hA,hB,hC,hD,hE,hF,hG,hH,hI,hJ,.int .u32 x4,.int .u8 x6,.int .u8 (IntKind.u8.wrap (((BitVec.ofInt (IntKind.bits .u8) x6 &&& BitVec.ofInt (IntKind.bits .u8) 127).toNat:Int))),.int .u32 (IntKind.u32.wrap (IntKind.u8.wrap (((BitVec.ofInt (IntKind.bits .u8) x6 &&& BitVec.ofInt (IntKind.bits .u8) 127).toNat:Int)))),.int .i64 x5,.int .i64 (IntKind.i64.wrap (7*x5)),.int .u32 x_2,.int .u32 (IntKind.u32.wrap (((BitVec.ofInt (IntKind.bits .u32) x4 ||| BitVec.ofInt (IntKind.bits .u32) x_2).toNat:Int))),hS,hT,hU,hV,hW,hX,hY,hZ,h0,h1,h2,h3,h4,h5] M:=by kernel_rfl
theorem k43_49:P43 [1,1,1,1,0,1,0,0,1,1,0,0,1,1,1]=.seq (P43 [1,1,1,1,0,1,0,0,1,1,0,0,1,1,1,0]) (P43 [1,1,1,1,0,1,0,0,1,1,0,0,1,1,1,1]):=by kernel_rfl
theorem k43_50:P43 [1,1,1,1,0,1,0,0,1,1,0,0,1,1,1,0]=.region 12 (O43 [1,1,1,1,0,1,0,0,1,1,0,0,1,1,1,0]) false:=by kernel_rfl
theorem r43_12 {x6:Int} {M:Mem} {call:CallM} {K:Array Value→Mem→R} :
 opsK Try.prog (fun _=>call) (O43 [1,1,1,1,0,1,0,0,1,1,0,0,1,1,1,0]) (O43 [1,1,1,1,0,1,0,0,1,1,0,0,1,1,1,0]).toList 0 #[g0,g1,g2,g3,g4,g5,.int .u8 x6,g7,g8,g9,gA,gB,gC,gD,gE,gF,gG,gH,gI,gJ,gK,gL,gM,gN,gO,gP,gQ,gR,gS,gT,gU,gV,gW,gX,gY,gZ,hA,hB,hC,hD,hE,hF,hG,hH,hI,hJ,hK,hL,hM,hN,hO,hP,hQ,hR,hS,hT,hU,hV,hW,hX,hY,hZ,h0,h1,h2,h3,h4,h5] M K=K #[g0,g1,g2,g3,g4,g5,.int .u8 x6,g7,g8,g9,gA,gB,gC,gD,gE,gF,gG,gH,gI,gJ,gK,gL,gM,gN,gO,gP,gQ,gR,gS,gT,gU,gV,gW,gX,gY,gZ,hA,hB,hC,hD,hE,hF,hG,hH,hI,hJ,hK,hL,hM,hN,hO,hP,hQ,hR,.int .u8 x6,.bool (decide (x6<128)),hU,hV,hW,hX,hY,hZ,h0,h1,h2,h3,h4,h5] M:=by kernel_rfl
theorem c43_51:P43 [1,1,1,1,0,1,0,0,1,1,0,0,1,1,1,1]=.cond (.tmp 55) (P43 [1,1,1,1,0,1,0,0,1,1,0,0,1,1,1,1,0]) (P43 [1,1,1,1,0,1,0,0,1,1,0,0,1,1,1,1,1]):=by kernel_rfl
theorem k43_52:P43 [1,1,1,1,0,1,0,0,1,1,0,0,1,1,1,1,0]=.seq (P43 [1,1,1,1,0,1,0,0,1,1,0,0,1,1,1,1,0,0]) (P43 [1,1,1,1,0,1,0,0,1,1,0,0,1,1,1,1,0,1]):=by kernel_rfl
theorem k43_53:P43 [1,1,1,1,0,1,0,0,1,1,0,0,1,1,1,1,0,0]=.region 13 (O43 [1,1,1,1,0,1,0,0,1,1,0,0,1,1,1,1,0,0]) false:=by kernel_rfl
theorem r43_13 {x0:Option Addr} {x5:Int} {M:Mem} {call:CallM} {K:Array Value→Mem→R} :
 opsK Try.prog (fun _=>call) (O43 [1,1,1,1,0,1,0,0,1,1,0,0,1,1,1,1,0,0]) (O43 [1,1,1,1,0,1,0,0,1,1,0,0,1,1,1,1,0,0]).toList 0 #[.pointer x0,g1,g2,g3,g4,.int .i64 x5,g6,g7,g8,g9,gA,gB,gC,gD,gE,gF,gG,gH,gI,gJ,gK,gL,gM,gN,gO,gP,gQ,gR,gS,gT,gU,gV,gW,gX,gY,gZ,hA,hB,hC,hD,hE,hF,hG,hH,hI,hJ,hK,hL,hM,hN,hO,hP,hQ,hR,hS,hT,hU,hV,hW,hX,hY,hZ,h0,h1,h2,h3,h4,h5] M K=(x0).bind fun a_1=>(M.intAt .i64 a_1.block (a_1.off+1)).bind fun x_2=>(x0).bind fun a_3=>(M.put a_3.block (a_3.off+1) (.int .i64 (IntKind.i64.wrap (x_2+(IntKind.i64.wrap (8*(IntKind.i64.wrap (x5+1)))))))).bind fun M_4=>K #[.pointer x0,g1,g2,g3,g4,.int .i64 x5,g6,g7,g8,g9,gA,gB,gC,gD,gE,gF,gG,gH,gI,gJ,gK,gL,gM,gN,gO,gP,gQ,gR,gS,gT,gU,gV,gW,gX,gY,gZ,hA,hB,hC,hD,hE,hF,hG,hH,hI,hJ,hK,hL,hM,hN,hO,hP,hQ,hR,hS,hT,.pointer x0,.pointer (some a_1),.pointer (some ⟨a_1.block,a_1.off+1,none⟩),.int .i64 x_2,.int .i64 x5,.int .i64 (IntKind.i64.wrap (x5+1)),.int .i64 (IntKind.i64.wrap (8*(IntKind.i64.wrap (x5+1)))),.int .i64 (IntKind.i64.wrap (x_2+(IntKind.i64.wrap (8*(IntKind.i64.wrap (x5+1)))))),.pointer (some a_3),.pointer (some ⟨a_3.block,a_3.off+1,none⟩),h4,h5] M_4:=by kernel_rfl
theorem k43_54:P43 [1,1,1,1,0,1,0,0,1,1,0,0,1,1,1,1,0,1]=.seq (P43 [1,1,1,1,0,1,0,0,1,1,0,0,1,1,1,1,0,1,0]) (P43 [1,1,1,1,0,1,0,0,1,1,0,0,1,1,1,1,0,1,1]):=by kernel_rfl
theorem k43_55:P43 [1,1,1,1,0,1,0,0,1,1,0,0,1,1,1,1,0,1,0]=.region 14 (O43 [1,1,1,1,0,1,0,0,1,1,0,0,1,1,1,1,0,1,0]) false:=by kernel_rfl
theorem r43_14 {x4:Int} {M:Mem} {call:CallM} {K:Array Value→Mem→R} :
 opsK Try.prog (fun _=>call) (O43 [1,1,1,1,0,1,0,0,1,1,0,0,1,1,1,1,0,1,0]) (O43 [1,1,1,1,0,1,0,0,1,1,0,0,1,1,1,1,0,1,0]).toList 0 #[g0,g1,g2,g3,.int .u32 x4,g5,g6,g7,g8,g9,gA,gB,gC,gD,gE,gF,gG,gH,gI,gJ,gK,gL,gM,gN,gO,gP,gQ,gR,gS,gT,gU,gV,gW,gX,gY,gZ,hA,hB,hC,hD,hE,hF,hG,hH,hI,hJ,hK,hL,hM,hN,hO,hP,hQ,hR,hS,hT,hU,hV,hW,hX,hY,hZ,h0,h1,h2,h3,h4,h5] M K=K #[g0,g1,.int .u32 x4,.int .i64 0,.int .u32 x4,g5,g6,g7,g8,g9,gA,gB,gC,gD,gE,gF,gG,gH,gI,gJ,gK,gL,gM,gN,gO,gP,gQ,gR,gS,gT,gU,gV,gW,gX,gY,gZ,hA,hB,hC,hD,hE,hF,hG,hH,hI,hJ,hK,hL,hM,hN,hO,hP,hQ,hR,hS,hT,hU,hV,hW,hX,hY,hZ,h0,h1,h2,h3,.int .u32 x4,h5] M:=by kernel_rfl
theorem k43_56:P43 [1,1,1,1,0,1,0,0,1,1,0,0,1,1,1,1,0,1,1]=.ret:=by kernel_rfl
theorem k43_57:P43 [1,1,1,1,0,1,0,0,1,1,0,0,1,1,1,1,1]=.skip:=by kernel_rfl
theorem k43_58:P43 [1,1,1,1,0,1,0,0,1,1,1]=.region 15 (O43 [1,1,1,1,0,1,0,0,1,1,1]) false:=by kernel_rfl
theorem r43_15 {x27:Int} {M:Mem} {call:CallM} {K:Array Value→Mem→R} :
 opsK Try.prog (fun _=>call) (O43 [1,1,1,1,0,1,0,0,1,1,1]) (O43 [1,1,1,1,0,1,0,0,1,1,1]).toList 0 #[g0,g1,g2,g3,g4,g5,g6,g7,g8,g9,gA,gB,gC,gD,gE,gF,gG,gH,gI,gJ,gK,gL,gM,gN,gO,gP,gQ,.int .i64 x27,gS,gT,gU,gV,gW,gX,gY,gZ,hA,hB,hC,hD,hE,hF,hG,hH,hI,hJ,hK,hL,hM,hN,hO,hP,hQ,hR,hS,hT,hU,hV,hW,hX,hY,hZ,h0,h1,h2,h3,h4,h5] M K=K #[g0,g1,g2,g3,g4,g5,g6,g7,g8,g9,gA,gB,gC,gD,gE,gF,gG,gH,gI,gJ,gK,gL,gM,gN,gO,gP,gQ,.int .i64 (IntKind.i64.wrap (x27+1)),gS,gT,gU,gV,gW,gX,gY,gZ,hA,hB,hC,hD,hE,hF,hG,hH,hI,hJ,hK,hL,hM,hN,hO,hP,hQ,hR,hS,hT,hU,hV,hW,hX,hY,hZ,h0,h1,h2,h3,h4,.int .i64 (IntKind.i64.wrap (x27+1))] M:=by kernel_rfl
noncomputable def S43_1:List Item:=[.code (P43 [1,1,1,1,0,1,0,0]),.inLoop (P43 [1,1,1,1,0,1,0,0]),.inBlock 0,.code (P43 [1,1,1,1,1])]
def A43_1 (x0:Option Addr) (x4:Int) (Y25:Option Addr) (l25 y25:Nat) (x26 x27:Int) (M:Mem) (Q:Value→Mem→Prop):Prop:=∀ (g1 g2 g3 g5 g6 g7 g8 g9 gA gB gC gD gE gF gG gH gI gJ gK gL gM gN gO gS gT gU gV gW gX gY gZ hA hB hC hD hE hF hG hH hI hJ hK hL hM hN hO hP hQ hR hS hT hU hV hW hX hY hZ h0 h1 h2 h3 h4 h5:Value),Rn Try.prog Try.f43 S43_1 #[.pointer x0,g1,g2,g3,.int .u32 x4,g5,g6,g7,g8,g9,gA,gB,gC,gD,gE,gF,gG,gH,gI,gJ,gK,gL,gM,gN,gO,.slice Y25 l25 y25,.int .i64 x26,.int .i64 x27,gS,gT,gU,gV,gW,gX,gY,gZ,hA,hB,hC,hD,hE,hF,hG,hH,hI,hJ,hK,hL,hM,hN,hO,hP,hQ,hR,hS,hT,hU,hV,hW,hX,hY,hZ,h0,h1,h2,h3,h4,h5] M Q
noncomputable def S43_2:List Item:=[.code (P43 [1,1,1,1,0,1,0,0,1,1,0,0,1,0,1]),.code (P43 [1,1,1,1,0,1,0,0,1,1,0,0,1,1]),.inBlock 1,.code (P43 [1,1,1,1,0,1,0,0,1,1,1]),.inLoop (P43 [1,1,1,1,0,1,0,0]),.inBlock 0,.code (P43 [1,1,1,1,1])]
def A43_2 (x0:Option Addr) (x4 x5 x6:Int) (Y25:Option Addr) (l25 y25:Nat) (x26 x27:Int) (x45:Bool) (M:Mem) (Q:Value→Mem→Prop):Prop:=∀ (g1 g2 g3 g7 g8 g9 gA gB gC gD gE gF gG gH gI gJ gK gL gM gN gO gS gT gU gV gW gX gY gZ hA hB hC hD hE hF hG hH hI hK hL hM hN hO hP hQ hR hS hT hU hV hW hX hY hZ h0 h1 h2 h3 h4 h5:Value),Rn Try.prog Try.f43 S43_2 #[.pointer x0,g1,g2,g3,.int .u32 x4,.int .i64 x5,.int .u8 x6,g7,g8,g9,gA,gB,gC,gD,gE,gF,gG,gH,gI,gJ,gK,gL,gM,gN,gO,.slice Y25 l25 y25,.int .i64 x26,.int .i64 x27,gS,gT,gU,gV,gW,gX,gY,gZ,hA,hB,hC,hD,hE,hF,hG,hH,hI,.bool x45,hK,hL,hM,hN,hO,hP,hQ,hR,hS,hT,hU,hV,hW,hX,hY,hZ,h0,h1,h2,h3,h4,h5] M Q
theorem w43_0 {x0:Option Addr} {M:Mem} {Q:Value→Mem→Prop} (H :
 Cn Try.prog 55 #[.pointer x0] M fun v1' N1'=>
 ∃b2',asB v1'=some b2'∧
 (((!b2')=true→
 Q (.tuple #[.int .u32 0,.int .i64 1]) N1')∧
 ((!b2')=false→
 ∃a3',x0=some a3'∧
 ∃x4',N1'.intAt .i64 a3'.block (a3'.off+1)=some x4'∧
 (((x4'.tmod 8)≠0→
 Q (.tuple #[.int .u32 0,.int .i64 2]) N1')∧
 ((x4'.tmod 8)=0→
 ∃a5',x0=some a5'∧
 ∃s6',N1'.slAt a5'.block a5'.off=some s6'∧
 ∃a7',x0=some a7'∧
 ∃x8',N1'.intAt .i64 a7'.block (a7'.off+1)=some x8'∧
 ∃v9',sliceP Try.prog 46 (.slice s6'.1 (s6'.2.1) (s6'.2.2)) (some (.int .i64 (IntKind.i64.wrap (x8'.tdiv 8)))) none none=some v9'∧
 ∃s10',asS v9'=some s10'∧
 A43_1 x0 0 s10'.1 s10'.2.1 s10'.2.2 (s10'.2.1:Int) 0 N1' Q))))):
 Cn Try.prog 43 #[.pointer x0] M Q:=by
  refine Cn.of b43 d43 t43 ?_
  refine Rn.seq k43_0 (Rn.region k43_1 (fun call K=>r43_0) (Rch.leaf (Rn.seq k43_2 (Rn.seq k43_3 (Rn.region k43_4 (fun call K=>r43_1) (Rch.call H fun v1' N1' H=>Rch.ex H fun b2' H=>Rch.leaf ?_))))))
  refine Rn.cnd (v:=!b2') ⟨c43_5,rfl,by kernel_rfl⟩ (fun h=>?_) (fun h=>?_)
  · replace H:=H.1 (h)
    refine Rn.seq k43_6 (Rn.region k43_7 (fun call K=>r43_2) (Rch.leaf ?_))
    exact Rn.ret k43_8 e43 H
  · replace H:=H.2 (h)
    refine Rn.skip k43_10 (Rn.seq k43_11 (Rn.seq k43_12 (Rn.region k43_13 (fun call K=>r43_3) (Rch.ex H fun a3' H=>Rch.ex H fun x4' H=>Rch.leaf ?_))))
    refine Rn.cnd (v:=(x4'.tmod 8) != 0) ⟨c43_14,rfl,by kernel_rfl⟩ (fun h=>?_) (fun h=>?_)
    · replace H:=H.1 (ne_of_bneT h)
      refine Rn.seq k43_15 (Rn.region k43_16 (fun call K=>r43_4) (Rch.leaf ?_))
      exact Rn.ret k43_17 e43 H
    · replace H:=H.2 (eq_of_bneF h)
      refine Rn.skip k43_18 (Rn.seq k43_19 (Rn.region k43_20 (fun call K=>r43_5) (Rch.leaf (Rn.seq k43_21 (Rn.seq k43_22 (Rn.regionD k43_23 (fun call K=>r43_6) (Rch.ex H fun a5' H=>Rch.ex H fun s6' H=>Rch.ex H fun a7' H=>Rch.ex H fun x8' H=>Rch.ex H fun v9' H=>?_)))))))
      refine Rch.ex H fun s10' H=>Rch.leaf (Rn.block k43_24 (Rn.loop k43_25 ?_))
      exact H ..
theorem w43_1 {x0:Option Addr} {x4:Int} {Y25:Option Addr} {l25 y25:Nat} {x26 x27:Int} {M:Mem} {Q:Value→Mem→Prop} (H :
 ((x27<x26→
 ∃a11',idxA Y25 l25 1 x27=some a11'∧
 ∃x12',M.intAt .u8 a11'.block a11'.off=some x12'∧
 ((x27=4→
 ((x12'>15→
 A43_2 x0 x4 x27 x12' Y25 l25 y25 x26 x27 true M Q)∧
 (¬(x12'>15)→
 ((x27>0→
 A43_2 x0 x4 x27 x12' Y25 l25 y25 x26 x27 (x12' == 0) M Q)∧
 (¬(x27>0)→
 A43_2 x0 x4 x27 x12' Y25 l25 y25 x26 x27 false M Q)))))∧
 (x27≠4→
 ((x27>0→
 A43_2 x0 x4 x27 x12' Y25 l25 y25 x26 x27 (x12' == 0) M Q)∧
 (¬(x27>0)→
 A43_2 x0 x4 x27 x12' Y25 l25 y25 x26 x27 false M Q)))))∧
 (¬(x27<x26)→
 Q (.tuple #[.int .u32 0,.int .i64 3]) M))):
 A43_1 x0 x4 Y25 l25 y25 x26 x27 M Q:=by
  iterate 63 intro _
  refine Rn.seq k43_26 (Rn.region k43_27 (fun call K=>r43_7) (Rch.leaf (Rn.seq k43_28 ?_)))
  refine Rn.cnd (v:=decide (x27<x26)) ⟨c43_29,rfl,by kernel_rfl⟩ (fun h=>?_) (fun h=>?_)
  · replace H:=H.1 (of_decide_eq_true h)
    refine Rn.skip k43_30 (Rn.seq k43_31 (Rn.block k43_32 (Rn.seq k43_33 (Rn.region k43_34 (fun call K=>r43_8) (Rch.ex H fun a11' H=>Rch.ex H fun x12' H=>Rch.leaf (Rn.seq k43_35 (Rn.seq k43_36 (Rn.region k43_37 (fun call K=>r43_9) ?_))))))))
    refine Rch.cB (fun h=>?_) (fun h=>?_)
    · replace H:=H.1 (eq_of_beq h)
      refine Rch.cB (fun h=>?_) (fun h=>?_)
      · replace H:=H.1 (of_decide_eq_true h)
        refine Rch.leaf ?_
        exact H ..
      · replace H:=H.2 (of_decide_eq_false h)
        refine Rch.cB (fun h=>?_) (fun h=>?_)
        · replace H:=H.1 (of_decide_eq_true h)
          refine Rch.leaf ?_
          exact H ..
        · replace H:=H.2 (of_decide_eq_false h)
          refine Rch.leaf ?_
          exact H ..
    · replace H:=H.2 (ne_of_beq_false h)
      refine Rch.cB (fun h=>?_) (fun h=>?_)
      · replace H:=H.1 (of_decide_eq_true h)
        refine Rch.leaf ?_
        exact H ..
      · replace H:=H.2 (of_decide_eq_false h)
        refine Rch.leaf ?_
        exact H ..
  · replace H:=H.2 (of_decide_eq_false h)
    refine Rn.exit k43_38 rfl (Rn.seq k43_39 (Rn.region k43_40 (fun call K=>r43_16) (Rch.leaf ?_)))
    exact Rn.ret k43_41 e43 H
theorem w43_2 {x0:Option Addr} {x4 x5 x6:Int} {Y25:Option Addr} {l25 y25:Nat} {x26 x27:Int} {x45:Bool} {M:Mem} {Q:Value→Mem→Prop} (H :
 ((x45=true→
 Q (.tuple #[.int .u32 0,.int .i64 4]) M)∧
 (x45=false→
 ∃v13',binV Try.prog .shl 69 3 (.int .u32 (IntKind.u32.wrap (IntKind.u8.wrap (((BitVec.ofInt (IntKind.bits .u8) x6 &&& BitVec.ofInt (IntKind.bits .u8) 127).toNat:Int))))) (.int .i64 (IntKind.i64.wrap (7*x5)))=some v13'∧
 ∃x14',asI .u32 v13'=some x14'∧
 ((x6<128→
 ∃a15',x0=some a15'∧
 ∃x16',M.intAt .i64 a15'.block (a15'.off+1)=some x16'∧
 ∃a17',x0=some a17'∧
 ∃M18',M.put a17'.block (a17'.off+1) (.int .i64 (IntKind.i64.wrap (x16'+(IntKind.i64.wrap (8*(IntKind.i64.wrap (x5+1)))))))=some M18'∧
 Q (.tuple #[.int .u32 (IntKind.u32.wrap (((BitVec.ofInt (IntKind.bits .u32) x4 ||| BitVec.ofInt (IntKind.bits .u32) x14').toNat:Int))),.int .i64 0]) M18')∧
 (¬(x6<128)→
 A43_1 x0 (IntKind.u32.wrap (((BitVec.ofInt (IntKind.bits .u32) x4 ||| BitVec.ofInt (IntKind.bits .u32) x14').toNat:Int))) Y25 l25 y25 x26 (IntKind.i64.wrap (x27+1)) M Q))))):
 A43_2 x0 x4 x5 x6 Y25 l25 y25 x26 x27 x45 M Q:=by
  iterate 60 intro _
  refine Rn.cnd (v:=x45) ⟨c43_42,rfl,by kernel_rfl⟩ (fun h=>?_) (fun h=>?_)
  · replace H:=H.1 (h)
    refine Rn.seq k43_43 (Rn.region k43_44 (fun call K=>r43_10) (Rch.leaf ?_))
    exact Rn.ret k43_45 e43 H
  · replace H:=H.2 (h)
    refine Rn.skip k43_46 (Rn.seq k43_47 (Rn.region k43_48 (fun call K=>r43_11) (Rch.ex H fun v13' H=>Rch.ex H fun x14' H=>Rch.leaf (Rn.seq k43_49 (Rn.region k43_50 (fun call K=>r43_12) (Rch.leaf ?_))))))
    refine Rn.cnd (v:=decide (x6<128)) ⟨c43_51,rfl,by kernel_rfl⟩ (fun h=>?_) (fun h=>?_)
    · replace H:=H.1 (of_decide_eq_true h)
      refine Rn.seq k43_52 (Rn.region k43_53 (fun call K=>r43_13) (Rch.ex H fun a15' H=>Rch.ex H fun x16' H=>Rch.ex H fun a17' H=>Rch.ex H fun M18' H=>Rch.leaf (Rn.seq k43_54 (Rn.region k43_55 (fun call K=>r43_14) (Rch.leaf ?_)))))
      exact Rn.ret k43_56 e43 H
    · replace H:=H.2 (of_decide_eq_false h)
      refine Rn.skip k43_57 (Rn.blk (Rn.region k43_58 (fun call K=>r43_15) (Rch.leaf (Rn.lp ?_))))
      exact H ..
noncomputable abbrev P44 (p:List Nat):Code:=subC (codeOf Try.f44) p
noncomputable abbrev O44 (p:List Nat):Array Oper:=opsOf (subC (codeOf Try.f44) p)
theorem b44:Try.prog.funcs[44]?=some Try.f44∧(Orc.tab Try.prog).lookup 44=none:=⟨by kernel_rfl,by kernel_rfl⟩
theorem d44:Try.f44.body=some (P44 []):=by kernel_rfl
theorem t44 {x0:Option Addr}:#[.pointer x0] ++ Array.replicate (Try.f44.ntmps-(#[.pointer x0]:Array Value).size) undef=#[.pointer x0,undef,undef,undef,undef,undef,undef,undef,undef,undef,undef,undef,undef,undef,undef,undef,undef,undef]:=by kernel_rfl
theorem k44_0:P44 []=.seq (P44 [0]) (P44 [1]):=by kernel_rfl
theorem k44_1:P44 [0]=.region 0 (O44 [0]) false:=by kernel_rfl
theorem r44_0 {M:Mem} {call:CallM} {K:Array Value→Mem→R} :
 opsK Try.prog (fun _=>call) (O44 [0]) (O44 [0]).toList 0 #[g0,g1,g2,g3,g4,g5,g6,g7,g8,g9,gA,gB,gC,gD,gE,gF,gG,gH] M K=K #[g0,g1,.slice none 0 0,g3,g4,g5,g6,g7,g8,g9,gA,gB,gC,gD,gE,gF,gG,gH] M:=by kernel_rfl
theorem k44_2:P44 [1]=.seq (P44 [1,0]) (P44 [1,1]):=by kernel_rfl
theorem k44_3:P44 [1,0]=.seq (P44 [1,0,0]) (P44 [1,0,1]):=by kernel_rfl
theorem k44_4:P44 [1,0,0]=.region 1 (O44 [1,0,0]) false:=by kernel_rfl
theorem r44_1 {x0:Option Addr} {M:Mem} {call:CallM} {K:Array Value→Mem→R} :
 opsK Try.prog (fun _=>call) (O44 [1,0,0]) (O44 [1,0,0]).toList 0 #[.pointer x0,g1,g2,g3,g4,g5,g6,g7,g8,g9,gA,gB,gC,gD,gE,gF,gG,gH] M K=(call 55 #[.pointer x0] M).bind fun r_1=>(asB r_1.1).bind fun b_2=>K #[.pointer x0,g1,g2,.pointer x0,.bool b_2,.bool (!b_2),g6,g7,g8,g9,gA,gB,gC,gD,gE,gF,gG,gH] r_1.2:=by kernel_rfl
theorem c44_5:P44 [1,0,1]=.cond (.tmp 5) (P44 [1,0,1,0]) (P44 [1,0,1,1]):=by kernel_rfl
theorem k44_6:P44 [1,0,1,0]=.seq (P44 [1,0,1,0,0]) (P44 [1,0,1,0,1]):=by kernel_rfl
theorem k44_7:P44 [1,0,1,0,0]=.region 2 (O44 [1,0,1,0,0]) false:=by kernel_rfl
theorem r44_2 {M:Mem} {call:CallM} {K:Array Value→Mem→R} :
 opsK Try.prog (fun _=>call) (O44 [1,0,1,0,0]) (O44 [1,0,1,0,0]).toList 0 #[g0,g1,g2,g3,g4,g5,g6,g7,g8,g9,gA,gB,gC,gD,gE,gF,gG,gH] M K=K #[g0,g1,.slice none 0 0,g3,g4,g5,g6,g7,g8,g9,gA,gB,gC,gD,gE,gF,gG,gH] M:=by kernel_rfl
theorem k44_8:P44 [1,0,1,0,1]=.ret:=by kernel_rfl
theorem e44 {M:Mem}:finish Try.prog Try.f44 #[g0,g1,g2,g3,g4,g5,g6,g7,g8,g9,gA,gB,gC,gD,gE,gF,gG,gH] M=some (g2,M):=by kernel_rfl
theorem k44_10:P44 [1,0,1,1]=.skip:=by kernel_rfl
theorem k44_11:P44 [1,1]=.seq (P44 [1,1,0]) (P44 [1,1,1]):=by kernel_rfl
theorem k44_12:P44 [1,1,0]=.region 3 (O44 [1,1,0]) true∧drawOk (O44 [1,1,0])=true:=⟨by kernel_rfl,by kernel_rfl⟩
theorem r44_3 {x0:Option Addr} {M:Mem} {call:CallM} {K:Array Value→Mem→R} :
    opsI Try.prog (callAt call (O44 [1,1,0])) (O44 [1,1,0]) (ordOf (O44 [1,1,0])) [] #[.pointer x0,g1,g2,g3,g4,g5,g6,g7,g8,g9,gA,gB,gC,gD,gE,gF,gG,gH] M K=(x0).bind fun a_1=>(M.slAt a_1.block a_1.off).bind fun s_2=>(x0).bind fun a_3=>(M.intAt .i64 a_3.block (a_3.off+1)).bind fun x_4=>(sliceP Try.prog 46 (.slice s_2.1 (s_2.2.1) (s_2.2.2)) (some (.int .i64 (IntKind.i64.wrap ((IntKind.i64.wrap (x_4+7)).tdiv 8)))) none none).bind fun v_5=>(asS v_5).bind fun s_6=>(call 46 #[.slice s_6.1 (s_6.2.1) (s_6.2.2)] M).bind fun r_7=>(asS r_7.1).bind fun s_8=>K #[.pointer x0,g1,.slice s_8.1 (s_8.2.1) (s_8.2.2),g3,g4,g5,.pointer x0,.pointer (some a_1),.pointer (some ⟨a_1.block,a_1.off,none⟩),.slice s_2.1 (s_2.2.1) (s_2.2.2),.pointer x0,.pointer (some a_3),.pointer (some ⟨a_3.block,a_3.off+1,none⟩),.int .i64 x_4,.int .i64 (IntKind.i64.wrap (x_4+7)),.int .i64 (IntKind.i64.wrap ((IntKind.i64.wrap (x_4+7)).tdiv 8)),.slice s_6.1 (s_6.2.1) (s_6.2.2),.slice s_8.1 (s_8.2.1) (s_8.2.2)] r_7.2:=by kernel_rfl
theorem k44_13:P44 [1,1,1]=.ret:=by kernel_rfl
theorem w44_0 {x0:Option Addr} {M:Mem} {Q:Value→Mem→Prop} (H :
 Cn Try.prog 55 #[.pointer x0] M fun v1' N1'=>
 ∃b2',asB v1'=some b2'∧
 (((!b2')=true→
 Q (.slice none 0 0) N1')∧
 ((!b2')=false→
 ∃a3',x0=some a3'∧
 ∃s4',N1'.slAt a3'.block a3'.off=some s4'∧
 ∃a5',x0=some a5'∧
 ∃x6',N1'.intAt .i64 a5'.block (a5'.off+1)=some x6'∧
 ∃v7',sliceP Try.prog 46 (.slice s4'.1 (s4'.2.1) (s4'.2.2)) (some (.int .i64 (IntKind.i64.wrap ((IntKind.i64.wrap (x6'+7)).tdiv 8)))) none none=some v7'∧
 ∃s8',asS v7'=some s8'∧
 Cn Try.prog 46 #[.slice s8'.1 (s8'.2.1) (s8'.2.2)] N1' fun v9' N9'=>
 ∃s10',asS v9'=some s10'∧
 Q (.slice s10'.1 (s10'.2.1) (s10'.2.2)) N9'))):
 Cn Try.prog 44 #[.pointer x0] M Q:=by
  refine Cn.of b44 d44 t44 ?_
  refine Rn.seq k44_0 (Rn.region k44_1 (fun call K=>r44_0) (Rch.leaf (Rn.seq k44_2 (Rn.seq k44_3 (Rn.region k44_4 (fun call K=>r44_1) (Rch.call H fun v1' N1' H=>Rch.ex H fun b2' H=>Rch.leaf ?_))))))
  refine Rn.cnd (v:=!b2') ⟨c44_5,rfl,by kernel_rfl⟩ (fun h=>?_) (fun h=>?_)
  · replace H:=H.1 (h)
    refine Rn.seq k44_6 (Rn.region k44_7 (fun call K=>r44_2) (Rch.leaf ?_))
    exact Rn.ret k44_8 e44 H
  · replace H:=H.2 (h)
    refine Rn.skip k44_10 (Rn.seq k44_11 (Rn.regionD k44_12 (fun call K=>r44_3) (Rch.ex H fun a3' H=>Rch.ex H fun s4' H=>Rch.ex H fun a5' H=>Rch.ex H fun x6' H=>Rch.ex H fun v7' H=>Rch.ex H fun s8' H=>Rch.call H fun v9' N9' H=>Rch.ex H fun s10' H=>Rch.leaf ?_)))
    exact Rn.ret k44_13 e44 H
noncomputable abbrev P47 (p:List Nat):Code:=subC (codeOf Try.f47) p
noncomputable abbrev O47 (p:List Nat):Array Oper:=opsOf (subC (codeOf Try.f47) p)
theorem b47:Try.prog.funcs[47]?=some Try.f47∧(Orc.tab Try.prog).lookup 47=none:=⟨by kernel_rfl,by kernel_rfl⟩
theorem d47:Try.f47.body=some (P47 []):=by kernel_rfl
theorem t47 {Y0:Option Addr} {l0 y0:Nat}:#[.slice Y0 l0 y0] ++ Array.replicate (Try.f47.ntmps-(#[.slice Y0 l0 y0]:Array Value).size) undef=#[.slice Y0 l0 y0,undef,undef,undef,undef,undef,undef]:=by kernel_rfl
theorem k47_0:P47 []=.seq (P47 [0]) (P47 [1]):=by kernel_rfl
theorem k47_1:P47 [0]=.region 0 (O47 [0]) false:=by kernel_rfl
theorem r47_0 {M:Mem} {call:CallM} {K:Array Value→Mem→R} :
 opsK Try.prog (fun _=>call) (O47 [0]) (O47 [0]).toList 0 #[g0,g1,g2,g3,g4,g5,g6] M K=K #[g0,g1,.pointer none,g3,g4,g5,g6] M:=by kernel_rfl
theorem k47_2:P47 [1]=.seq (P47 [1,0]) (P47 [1,1]):=by kernel_rfl
theorem k47_3:P47 [1,0]=.region 1 (O47 [1,0]) false:=by kernel_rfl
theorem r47_1 {Y0:Option Addr} {l0 y0:Nat} {M:Mem} {call:CallM} {K:Array Value→Mem→R} :
 opsK Try.prog (fun _=>call) (O47 [1,0]) (O47 [1,0]).toList 0 #[.slice Y0 l0 y0,g1,g2,g3,g4,g5,g6] M K=(call 56 #[.slice Y0 l0 y0] M).bind fun r_1=>(asS r_1.1).bind fun s_2=>K #[.slice Y0 l0 y0,g1,.pointer (some ⟨2*r_1.2.nb.size,0,none⟩),.slice Y0 l0 y0,.slice s_2.1 (s_2.2.1) (s_2.2.2),.agg #[.slice s_2.1 (s_2.2.1) (s_2.2.2),.int .i64 0],.pointer (some ⟨2*r_1.2.nb.size,0,none⟩)] (r_1.2.new (.cells #[.slice s_2.1 (s_2.2.1) (s_2.2.2),.int .i64 0] 92)):=by kernel_rfl
theorem k47_4:P47 [1,1]=.ret:=by kernel_rfl
theorem e47 {M:Mem}:finish Try.prog Try.f47 #[g0,g1,g2,g3,g4,g5,g6] M=some (g2,M):=by kernel_rfl
theorem w47_0 {Y0:Option Addr} {l0 y0:Nat} {M:Mem} {Q:Value→Mem→Prop} (H :
 Cn Try.prog 56 #[.slice Y0 l0 y0] M fun v1' N1'=>
 ∃s2',asS v1'=some s2'∧
 Q (.pointer (some ⟨2*N1'.nb.size,0,none⟩)) (N1'.new (.cells #[.slice s2'.1 (s2'.2.1) (s2'.2.2),.int .i64 0] 92))):
 Cn Try.prog 47 #[.slice Y0 l0 y0] M Q:=by
  refine Cn.of b47 d47 t47 ?_
  refine Rn.seq k47_0 (Rn.region k47_1 (fun call K=>r47_0) (Rch.leaf (Rn.seq k47_2 (Rn.region k47_3 (fun call K=>r47_1) (Rch.call H fun v1' N1' H=>Rch.ex H fun s2' H=>Rch.leaf ?_)))))
  exact Rn.ret k47_4 e47 H
noncomputable abbrev P48 (p:List Nat):Code:=subC (codeOf Try.f48) p
noncomputable abbrev O48 (p:List Nat):Array Oper:=opsOf (subC (codeOf Try.f48) p)
theorem b48:Try.prog.funcs[48]?=some Try.f48∧(Orc.tab Try.prog).lookup 48=none:=⟨by kernel_rfl,by kernel_rfl⟩
theorem d48:Try.f48.body=some (P48 []):=by kernel_rfl
theorem t48 {x0:Option Addr}:#[.pointer x0] ++ Array.replicate (Try.f48.ntmps-(#[.pointer x0]:Array Value).size) undef=#[.pointer x0,undef,undef,undef,undef,undef,undef,undef,undef,undef,undef,undef,undef,undef,undef,undef,undef,undef,undef,undef,undef,undef,undef,undef,undef,undef,undef,undef,undef,undef,undef,undef,undef,undef,undef,undef,undef,undef,undef,undef,undef,undef,undef,undef,undef,undef,undef,undef,undef,undef,undef,undef,undef,undef,undef,undef,undef,undef,undef,undef,undef,undef,undef,undef,undef,undef,undef,undef]:=by kernel_rfl
theorem k48_0:P48 []=.seq (P48 [0]) (P48 [1]):=by kernel_rfl
theorem k48_1:P48 [0]=.region 0 (O48 [0]) false:=by kernel_rfl
theorem r48_0 {M:Mem} {call:CallM} {K:Array Value→Mem→R} :
 opsK Try.prog (fun _=>call) (O48 [0]) (O48 [0]).toList 0 #[g0,g1,g2,g3,g4,g5,g6,g7,g8,g9,gA,gB,gC,gD,gE,gF,gG,gH,gI,gJ,gK,gL,gM,gN,gO,gP,gQ,gR,gS,gT,gU,gV,gW,gX,gY,gZ,hA,hB,hC,hD,hE,hF,hG,hH,hI,hJ,hK,hL,hM,hN,hO,hP,hQ,hR,hS,hT,hU,hV,hW,hX,hY,hZ,h0,h1,h2,h3,h4,h5] M K=K #[g0,g1,.int .u32 0,.int .i64 0,g4,g5,g6,g7,g8,g9,gA,gB,gC,gD,gE,gF,gG,gH,gI,gJ,gK,gL,gM,gN,gO,gP,gQ,gR,gS,gT,gU,gV,gW,gX,gY,gZ,hA,hB,hC,hD,hE,hF,hG,hH,hI,hJ,hK,hL,hM,hN,hO,hP,hQ,hR,hS,hT,hU,hV,hW,hX,hY,hZ,h0,h1,h2,h3,h4,h5] M:=by kernel_rfl
theorem k48_2:P48 [1]=.seq (P48 [1,0]) (P48 [1,1]):=by kernel_rfl
theorem k48_3:P48 [1,0]=.seq (P48 [1,0,0]) (P48 [1,0,1]):=by kernel_rfl
theorem k48_4:P48 [1,0,0]=.region 1 (O48 [1,0,0]) false:=by kernel_rfl
theorem r48_1 {x0:Option Addr} {M:Mem} {call:CallM} {K:Array Value→Mem→R} :
 opsK Try.prog (fun _=>call) (O48 [1,0,0]) (O48 [1,0,0]).toList 0 #[.pointer x0,g1,g2,g3,g4,g5,g6,g7,g8,g9,gA,gB,gC,gD,gE,gF,gG,gH,gI,gJ,gK,gL,gM,gN,gO,gP,gQ,gR,gS,gT,gU,gV,gW,gX,gY,gZ,hA,hB,hC,hD,hE,hF,hG,hH,hI,hJ,hK,hL,hM,hN,hO,hP,hQ,hR,hS,hT,hU,hV,hW,hX,hY,hZ,h0,h1,h2,h3,h4,h5] M K=(x0).bind fun a_1=>(M.intAt .i64 a_1.block (a_1.off+1)).bind fun x_2=>K #[.pointer x0,g1,g2,g3,g4,g5,g6,g7,g8,.pointer x0,.pointer (some a_1),.pointer (some ⟨a_1.block,a_1.off+1,none⟩),.int .i64 x_2,.int .i64 (x_2.tmod 8),.bool ((x_2.tmod 8) != 0),gF,gG,gH,gI,gJ,gK,gL,gM,gN,gO,gP,gQ,gR,gS,gT,gU,gV,gW,gX,gY,gZ,hA,hB,hC,hD,hE,hF,hG,hH,hI,hJ,hK,hL,hM,hN,hO,hP,hQ,hR,hS,hT,hU,hV,hW,hX,hY,hZ,h0,h1,h2,h3,h4,h5] M:=by kernel_rfl
theorem c48_5:P48 [1,0,1]=.cond (.tmp 14) (P48 [1,0,1,0]) (P48 [1,0,1,1]):=by kernel_rfl
theorem k48_6:P48 [1,0,1,0]=.seq (P48 [1,0,1,0,0]) (P48 [1,0,1,0,1]):=by kernel_rfl
theorem k48_7:P48 [1,0,1,0,0]=.region 2 (O48 [1,0,1,0,0]) false:=by kernel_rfl
theorem r48_2 {M:Mem} {call:CallM} {K:Array Value→Mem→R} :
 opsK Try.prog (fun _=>call) (O48 [1,0,1,0,0]) (O48 [1,0,1,0,0]).toList 0 #[g0,g1,g2,g3,g4,g5,g6,g7,g8,g9,gA,gB,gC,gD,gE,gF,gG,gH,gI,gJ,gK,gL,gM,gN,gO,gP,gQ,gR,gS,gT,gU,gV,gW,gX,gY,gZ,hA,hB,hC,hD,hE,hF,hG,hH,hI,hJ,hK,hL,hM,hN,hO,hP,hQ,hR,hS,hT,hU,hV,hW,hX,hY,hZ,h0,h1,h2,h3,h4,h5] M K=K #[g0,g1,.int .u32 0,.int .i64 2,g4,g5,g6,g7,g8,g9,gA,gB,gC,gD,gE,gF,gG,gH,gI,gJ,gK,gL,gM,gN,gO,gP,gQ,gR,gS,gT,gU,gV,gW,gX,gY,gZ,hA,hB,hC,hD,hE,hF,hG,hH,hI,hJ,hK,hL,hM,hN,hO,hP,hQ,hR,hS,hT,hU,hV,hW,hX,hY,hZ,h0,h1,h2,h3,h4,h5] M:=by kernel_rfl
theorem k48_8:P48 [1,0,1,0,1]=.ret:=by kernel_rfl
theorem e48 {M:Mem}:finish Try.prog Try.f48 #[g0,g1,g2,g3,g4,g5,g6,g7,g8,g9,gA,gB,gC,gD,gE,gF,gG,gH,gI,gJ,gK,gL,gM,gN,gO,gP,gQ,gR,gS,gT,gU,gV,gW,gX,gY,gZ,hA,hB,hC,hD,hE,hF,hG,hH,hI,hJ,hK,hL,hM,hN,hO,hP,hQ,hR,hS,hT,hU,hV,hW,hX,hY,hZ,h0,h1,h2,h3,h4,h5] M=some (.tuple #[g2,g3],M):=by kernel_rfl
theorem k48_10:P48 [1,0,1,1]=.skip:=by kernel_rfl
theorem k48_11:P48 [1,1]=.seq (P48 [1,1,0]) (P48 [1,1,1]):=by kernel_rfl
theorem k48_12:P48 [1,1,0]=.region 3 (O48 [1,1,0]) false:=by kernel_rfl
theorem r48_3 {M:Mem} {call:CallM} {K:Array Value→Mem→R} :
 opsK Try.prog (fun _=>call) (O48 [1,1,0]) (O48 [1,1,0]).toList 0 #[g0,g1,g2,g3,g4,g5,g6,g7,g8,g9,gA,gB,gC,gD,gE,gF,gG,gH,gI,gJ,gK,gL,gM,gN,gO,gP,gQ,gR,gS,gT,gU,gV,gW,gX,gY,gZ,hA,hB,hC,hD,hE,hF,hG,hH,hI,hJ,hK,hL,hM,hN,hO,hP,hQ,hR,hS,hT,hU,hV,hW,hX,hY,hZ,h0,h1,h2,h3,h4,h5] M K=K #[g0,g1,g2,g3,.int .u64 0,g5,g6,g7,g8,g9,gA,gB,gC,gD,gE,gF,gG,gH,gI,gJ,gK,gL,gM,gN,gO,gP,gQ,gR,gS,gT,gU,gV,gW,gX,gY,gZ,hA,hB,hC,hD,hE,hF,hG,hH,hI,hJ,hK,hL,hM,hN,hO,hP,hQ,hR,hS,hT,hU,hV,hW,hX,hY,hZ,h0,h1,h2,h3,h4,h5] M:=by kernel_rfl
theorem k48_13:P48 [1,1,1]=.seq (P48 [1,1,1,0]) (P48 [1,1,1,1]):=by kernel_rfl
theorem k48_14:P48 [1,1,1,0]=.region 4 (O48 [1,1,1,0]) false:=by kernel_rfl
theorem r48_4 {M:Mem} {call:CallM} {K:Array Value→Mem→R} :
 opsK Try.prog (fun _=>call) (O48 [1,1,1,0]) (O48 [1,1,1,0]).toList 0 #[g0,g1,g2,g3,g4,g5,g6,g7,g8,g9,gA,gB,gC,gD,gE,gF,gG,gH,gI,gJ,gK,gL,gM,gN,gO,gP,gQ,gR,gS,gT,gU,gV,gW,gX,gY,gZ,hA,hB,hC,hD,hE,hF,hG,hH,hI,hJ,hK,hL,hM,hN,hO,hP,hQ,hR,hS,hT,hU,hV,hW,hX,hY,hZ,h0,h1,h2,h3,h4,h5] M K=K #[g0,g1,g2,g3,g4,.int .u64 1,g6,g7,g8,g9,gA,gB,gC,gD,gE,gF,gG,gH,gI,gJ,gK,gL,gM,gN,gO,gP,gQ,gR,gS,gT,gU,gV,gW,gX,gY,gZ,hA,hB,hC,hD,hE,hF,hG,hH,hI,hJ,hK,hL,hM,hN,hO,hP,hQ,hR,hS,hT,hU,hV,hW,hX,hY,hZ,h0,h1,h2,h3,h4,h5] M:=by kernel_rfl
theorem k48_15:P48 [1,1,1,1]=.seq (P48 [1,1,1,1,0]) (P48 [1,1,1,1,1]):=by kernel_rfl
theorem k48_16:P48 [1,1,1,1,0]=.seq (P48 [1,1,1,1,0,0]) (P48 [1,1,1,1,0,1]):=by kernel_rfl
theorem k48_17:P48 [1,1,1,1,0,0]=.region 5 (O48 [1,1,1,1,0,0]) false:=by kernel_rfl
theorem r48_5 {M:Mem} {call:CallM} {K:Array Value→Mem→R} :
 opsK Try.prog (fun _=>call) (O48 [1,1,1,1,0,0]) (O48 [1,1,1,1,0,0]).toList 0 #[g0,g1,g2,g3,g4,g5,g6,g7,g8,g9,gA,gB,gC,gD,gE,gF,gG,gH,gI,gJ,gK,gL,gM,gN,gO,gP,gQ,gR,gS,gT,gU,gV,gW,gX,gY,gZ,hA,hB,hC,hD,hE,hF,hG,hH,hI,hJ,hK,hL,hM,hN,hO,hP,hQ,hR,hS,hT,hU,hV,hW,hX,hY,hZ,h0,h1,h2,h3,h4,h5] M K=K #[g0,g1,g2,g3,g4,g5,.int .i64 0,g7,g8,g9,gA,gB,gC,gD,gE,gF,gG,gH,gI,gJ,gK,gL,gM,gN,gO,gP,gQ,gR,gS,gT,gU,gV,gW,gX,gY,gZ,hA,hB,hC,hD,hE,hF,hG,hH,hI,hJ,hK,hL,hM,hN,hO,hP,hQ,hR,hS,hT,hU,hV,hW,hX,hY,hZ,h0,h1,h2,h3,h4,h5] M:=by kernel_rfl
theorem k48_18:P48 [1,1,1,1,0,1]=.block 0 (P48 [1,1,1,1,0,1,0]):=by kernel_rfl
theorem k48_19:P48 [1,1,1,1,0,1,0]=.loop (P48 [1,1,1,1,0,1,0,0]):=by kernel_rfl
theorem k48_20:P48 [1,1,1,1,0,1,0,0]=.seq (P48 [1,1,1,1,0,1,0,0,0]) (P48 [1,1,1,1,0,1,0,0,1]):=by kernel_rfl
theorem k48_21:P48 [1,1,1,1,0,1,0,0,0]=.seq (P48 [1,1,1,1,0,1,0,0,0,0]) (P48 [1,1,1,1,0,1,0,0,0,1]):=by kernel_rfl
theorem k48_22:P48 [1,1,1,1,0,1,0,0,0,0]=.region 6 (O48 [1,1,1,1,0,1,0,0,0,0]) false:=by kernel_rfl
theorem r48_6 {x6:Int} {M:Mem} {call:CallM} {K:Array Value→Mem→R} :
 opsK Try.prog (fun _=>call) (O48 [1,1,1,1,0,1,0,0,0,0]) (O48 [1,1,1,1,0,1,0,0,0,0]).toList 0 #[g0,g1,g2,g3,g4,g5,.int .i64 x6,g7,g8,g9,gA,gB,gC,gD,gE,gF,gG,gH,gI,gJ,gK,gL,gM,gN,gO,gP,gQ,gR,gS,gT,gU,gV,gW,gX,gY,gZ,hA,hB,hC,hD,hE,hF,hG,hH,hI,hJ,hK,hL,hM,hN,hO,hP,hQ,hR,hS,hT,hU,hV,hW,hX,hY,hZ,h0,h1,h2,h3,h4,h5] M K=K #[g0,g1,g2,g3,g4,g5,.int .i64 x6,g7,g8,g9,gA,gB,gC,gD,gE,.int .i64 x6,.bool (decide (x6<5)),gH,gI,gJ,gK,gL,gM,gN,gO,gP,gQ,gR,gS,gT,gU,gV,gW,gX,gY,gZ,hA,hB,hC,hD,hE,hF,hG,hH,hI,hJ,hK,hL,hM,hN,hO,hP,hQ,hR,hS,hT,hU,hV,hW,hX,hY,hZ,h0,h1,h2,h3,h4,h5] M:=by kernel_rfl
theorem c48_23:P48 [1,1,1,1,0,1,0,0,0,1]=.cond (.tmp 16) (P48 [1,1,1,1,0,1,0,0,0,1,0]) (P48 [1,1,1,1,0,1,0,0,0,1,1]):=by kernel_rfl
theorem k48_24:P48 [1,1,1,1,0,1,0,0,0,1,0]=.skip:=by kernel_rfl
theorem k48_25:P48 [1,1,1,1,0,1,0,0,1]=.seq (P48 [1,1,1,1,0,1,0,0,1,0]) (P48 [1,1,1,1,0,1,0,0,1,1]):=by kernel_rfl
theorem k48_26:P48 [1,1,1,1,0,1,0,0,1,0]=.block 1 (P48 [1,1,1,1,0,1,0,0,1,0,0]):=by kernel_rfl
theorem k48_27:P48 [1,1,1,1,0,1,0,0,1,0,0]=.seq (P48 [1,1,1,1,0,1,0,0,1,0,0,0]) (P48 [1,1,1,1,0,1,0,0,1,0,0,1]):=by kernel_rfl
theorem k48_28:P48 [1,1,1,1,0,1,0,0,1,0,0,0]=.region 8 (O48 [1,1,1,1,0,1,0,0,1,0,0,0]) false:=by kernel_rfl
theorem r48_8 {x0:Option Addr} {x6:Int} {M:Mem} {call:CallM} {K:Array Value→Mem→R} :
 opsK Try.prog (fun _=>call) (O48 [1,1,1,1,0,1,0,0,1,0,0,0]) (O48 [1,1,1,1,0,1,0,0,1,0,0,0]).toList 0 #[.pointer x0,g1,g2,g3,g4,g5,.int .i64 x6,g7,g8,g9,gA,gB,gC,gD,gE,gF,gG,gH,gI,gJ,gK,gL,gM,gN,gO,gP,gQ,gR,gS,gT,gU,gV,gW,gX,gY,gZ,hA,hB,hC,hD,hE,hF,hG,hH,hI,hJ,hK,hL,hM,hN,hO,hP,hQ,hR,hS,hT,hU,hV,hW,hX,hY,hZ,h0,h1,h2,h3,h4,h5] M K=(x0).bind fun a_1=>(M.intAt .i64 a_1.block (a_1.off+1)).bind fun x_2=>K #[.pointer x0,g1,g2,g3,g4,g5,.int .i64 x6,.int .i64 (IntKind.i64.wrap (x_2+(IntKind.i64.wrap (8*x6)))),g8,g9,gA,gB,gC,gD,gE,gF,gG,gH,gI,.pointer x0,.pointer (some a_1),.pointer (some ⟨a_1.block,a_1.off+1,none⟩),.int .i64 x_2,.int .i64 x6,.int .i64 (IntKind.i64.wrap (8*x6)),.int .i64 (IntKind.i64.wrap (x_2+(IntKind.i64.wrap (8*x6)))),gQ,gR,gS,gT,gU,gV,gW,gX,gY,gZ,hA,hB,hC,hD,hE,hF,hG,hH,hI,hJ,hK,hL,hM,hN,hO,hP,hQ,hR,hS,hT,hU,hV,hW,hX,hY,hZ,h0,h1,h2,h3,h4,h5] M:=by kernel_rfl
theorem k48_29:P48 [1,1,1,1,0,1,0,0,1,0,0,1]=.seq (P48 [1,1,1,1,0,1,0,0,1,0,0,1,0]) (P48 [1,1,1,1,0,1,0,0,1,0,0,1,1]):=by kernel_rfl
theorem k48_30:P48 [1,1,1,1,0,1,0,0,1,0,0,1,0]=.seq (P48 [1,1,1,1,0,1,0,0,1,0,0,1,0,0]) (P48 [1,1,1,1,0,1,0,0,1,0,0,1,0,1]):=by kernel_rfl
theorem k48_31:P48 [1,1,1,1,0,1,0,0,1,0,0,1,0,0]=.region 9 (O48 [1,1,1,1,0,1,0,0,1,0,0,1,0,0]) false:=by kernel_rfl
theorem r48_9 {x0:Option Addr} {x7:Int} {M:Mem} {call:CallM} {K:Array Value→Mem→R} :
 opsK Try.prog (fun _=>call) (O48 [1,1,1,1,0,1,0,0,1,0,0,1,0,0]) (O48 [1,1,1,1,0,1,0,0,1,0,0,1,0,0]).toList 0 #[.pointer x0,g1,g2,g3,g4,g5,g6,.int .i64 x7,g8,g9,gA,gB,gC,gD,gE,gF,gG,gH,gI,gJ,gK,gL,gM,gN,gO,gP,gQ,gR,gS,gT,gU,gV,gW,gX,gY,gZ,hA,hB,hC,hD,hE,hF,hG,hH,hI,hJ,hK,hL,hM,hN,hO,hP,hQ,hR,hS,hT,hU,hV,hW,hX,hY,hZ,h0,h1,h2,h3,h4,h5] M K=(x0).bind fun a_1=>(M.slAt a_1.block a_1.off).bind fun s_2=>K #[.pointer x0,g1,g2,g3,g4,g5,g6,.int .i64 x7,g8,g9,gA,gB,gC,gD,gE,gF,gG,gH,gI,gJ,gK,gL,gM,gN,gO,gP,.int .i64 x7,.int .i64 (IntKind.i64.wrap (x7+8)),.pointer x0,.pointer (some a_1),.pointer (some ⟨a_1.block,a_1.off,none⟩),.slice s_2.1 (s_2.2.1) (s_2.2.2),.int .i64 ((s_2.2.1:Int)),.bool (decide ((IntKind.i64.wrap (x7+8))>((s_2.2.1:Int)))),gY,gZ,hA,hB,hC,hD,hE,hF,hG,hH,hI,hJ,hK,hL,hM,hN,hO,hP,hQ,hR,hS,hT,hU,hV,hW,hX,hY,hZ,h0,h1,h2,h3,h4,h5] M:=by kernel_rfl
theorem c48_32:P48 [1,1,1,1,0,1,0,0,1,0,0,1,0,1]=.cond (.tmp 33) (P48 [1,1,1,1,0,1,0,0,1,0,0,1,0,1,0]) (P48 [1,1,1,1,0,1,0,0,1,0,0,1,0,1,1]):=by kernel_rfl
theorem k48_33:P48 [1,1,1,1,0,1,0,0,1,0,0,1,0,1,0]=.seq (P48 [1,1,1,1,0,1,0,0,1,0,0,1,0,1,0,0]) (P48 [1,1,1,1,0,1,0,0,1,0,0,1,0,1,0,1]):=by kernel_rfl
theorem k48_34:P48 [1,1,1,1,0,1,0,0,1,0,0,1,0,1,0,0]=.region 10 (O48 [1,1,1,1,0,1,0,0,1,0,0,1,0,1,0,0]) false:=by kernel_rfl
theorem r48_10 {M:Mem} {call:CallM} {K:Array Value→Mem→R} :
 opsK Try.prog (fun _=>call) (O48 [1,1,1,1,0,1,0,0,1,0,0,1,0,1,0,0]) (O48 [1,1,1,1,0,1,0,0,1,0,0,1,0,1,0,0]).toList 0 #[g0,g1,g2,g3,g4,g5,g6,g7,g8,g9,gA,gB,gC,gD,gE,gF,gG,gH,gI,gJ,gK,gL,gM,gN,gO,gP,gQ,gR,gS,gT,gU,gV,gW,gX,gY,gZ,hA,hB,hC,hD,hE,hF,hG,hH,hI,hJ,hK,hL,hM,hN,hO,hP,hQ,hR,hS,hT,hU,hV,hW,hX,hY,hZ,h0,h1,h2,h3,h4,h5] M K=K #[g0,g1,.int .u32 0,.int .i64 3,g4,g5,g6,g7,g8,g9,gA,gB,gC,gD,gE,gF,gG,gH,gI,gJ,gK,gL,gM,gN,gO,gP,gQ,gR,gS,gT,gU,gV,gW,gX,gY,gZ,hA,hB,hC,hD,hE,hF,hG,hH,hI,hJ,hK,hL,hM,hN,hO,hP,hQ,hR,hS,hT,hU,hV,hW,hX,hY,hZ,h0,h1,h2,h3,h4,h5] M:=by kernel_rfl
theorem k48_35:P48 [1,1,1,1,0,1,0,0,1,0,0,1,0,1,0,1]=.ret:=by kernel_rfl
theorem k48_36:P48 [1,1,1,1,0,1,0,0,1,0,0,1,0,1,1]=.skip:=by kernel_rfl
theorem k48_37:P48 [1,1,1,1,0,1,0,0,1,0,0,1,1]=.seq (P48 [1,1,1,1,0,1,0,0,1,0,0,1,1,0]) (P48 [1,1,1,1,0,1,0,0,1,0,0,1,1,1]):=by kernel_rfl
theorem k48_38:P48 [1,1,1,1,0,1,0,0,1,0,0,1,1,0]=.region 11 (O48 [1,1,1,1,0,1,0,0,1,0,0,1,1,0]) false:=by kernel_rfl
theorem r48_11 {x0:Option Addr} {x7:Int} {M:Mem} {call:CallM} {K:Array Value→Mem→R} :
 opsK Try.prog (fun _=>call) (O48 [1,1,1,1,0,1,0,0,1,0,0,1,1,0]) (O48 [1,1,1,1,0,1,0,0,1,0,0,1,1,0]).toList 0 #[.pointer x0,g1,g2,g3,g4,g5,g6,.int .i64 x7,g8,g9,gA,gB,gC,gD,gE,gF,gG,gH,gI,gJ,gK,gL,gM,gN,gO,gP,gQ,gR,gS,gT,gU,gV,gW,gX,gY,gZ,hA,hB,hC,hD,hE,hF,hG,hH,hI,hJ,hK,hL,hM,hN,hO,hP,hQ,hR,hS,hT,hU,hV,hW,hX,hY,hZ,h0,h1,h2,h3,h4,h5] M K=(call 57 #[.pointer x0,.int .i64 x7,.int .i64 8] M).bind fun r_1=>(asI .u64 r_1.1).bind fun x_2=>K #[.pointer x0,g1,g2,g3,g4,g5,g6,.int .i64 x7,.int .u64 x_2,g9,gA,gB,gC,gD,gE,gF,gG,gH,gI,gJ,gK,gL,gM,gN,gO,gP,gQ,gR,gS,gT,gU,gV,gW,gX,.pointer x0,.int .i64 x7,.int .u64 x_2,hB,hC,hD,hE,hF,hG,hH,hI,hJ,hK,hL,hM,hN,hO,hP,hQ,hR,hS,hT,hU,hV,hW,hX,hY,hZ,h0,h1,h2,h3,h4,h5] r_1.2:=by kernel_rfl
theorem k48_39:P48 [1,1,1,1,0,1,0,0,1,0,0,1,1,1]=.seq (P48 [1,1,1,1,0,1,0,0,1,0,0,1,1,1,0]) (P48 [1,1,1,1,0,1,0,0,1,0,0,1,1,1,1]):=by kernel_rfl
theorem k48_40:P48 [1,1,1,1,0,1,0,0,1,0,0,1,1,1,0]=.seq (P48 [1,1,1,1,0,1,0,0,1,0,0,1,1,1,0,0]) (P48 [1,1,1,1,0,1,0,0,1,0,0,1,1,1,0,1]):=by kernel_rfl
theorem k48_41:P48 [1,1,1,1,0,1,0,0,1,0,0,1,1,1,0,0]=.region 12 (O48 [1,1,1,1,0,1,0,0,1,0,0,1,1,1,0,0]) false:=by kernel_rfl
theorem r48_12 {x6 x8:Int} {M:Mem} {call:CallM} {K:Array Value→Mem→R} :
 opsK Try.prog (fun _=>call) (O48 [1,1,1,1,0,1,0,0,1,0,0,1,1,1,0,0]) (O48 [1,1,1,1,0,1,0,0,1,0,0,1,1,1,0,0]).toList 0 #[g0,g1,g2,g3,g4,g5,.int .i64 x6,g7,.int .u64 x8,g9,gA,gB,gC,gD,gE,gF,gG,gH,gI,gJ,gK,gL,gM,gN,gO,gP,gQ,gR,gS,gT,gU,gV,gW,gX,gY,gZ,hA,hB,hC,hD,hE,hF,hG,hH,hI,hJ,hK,hL,hM,hN,hO,hP,hQ,hR,hS,hT,hU,hV,hW,hX,hY,hZ,h0,h1,h2,h3,h4,h5] M K=withK (fun w39 w40 w41 w42 w43 w44 w45 w46 w47 w48 w49 w50 M=>K #[g0,g1,g2,g3,g4,g5,.int .i64 x6,g7,.int .u64 x8,g9,gA,gB,gC,gD,gE,gF,gG,gH,gI,gJ,gK,gL,gM,gN,gO,gP,gQ,gR,gS,gT,gU,gV,gW,gX,gY,gZ,hA,.int .i64 x6,.bool (x6 == 4),w39,w40,w41,w42,w43,w44,w45,w46,w47,w48,w49,w50,hP,hQ,hR,hS,hT,hU,hV,hW,hX,hY,hZ,h0,h1,h2,h3,h4,h5] M) fun k=>cond (x6 == 4) (cond (decide (x8>15)) (k (.bool true) (.int .u64 x8) (.bool (decide (x8>15))) (.bool (decide (x8>15))) (.bool true) undef undef undef undef undef undef (.bool true) M) (cond (decide (x6>0)) (k (.bool true) (.int .u64 x8) (.bool (decide (x8>15))) (.bool (decide (x8>15))) (.bool false) (.int .i64 x6) (.bool (decide (x6>0))) (.bool true) (.int .u64 x8) (.bool (x8 == 0)) (.bool (x8 == 0)) (.bool (x8 == 0)) M) (k (.bool true) (.int .u64 x8) (.bool (decide (x8>15))) (.bool (decide (x8>15))) (.bool false) (.int .i64 x6) (.bool (decide (x6>0))) (.bool false) undef undef (.bool false) (.bool false) M))) (cond (decide (x6>0)) (k (.bool false) undef undef (.bool false) (.bool false) (.int .i64 x6) (.bool (decide (x6>0))) (.bool true) (.int .u64 x8) (.bool (x8 == 0)) (.bool (x8 == 0)) (.bool (x8 == 0)) M) (k (.bool false) undef undef (.bool false) (.bool false) (.int .i64 x6) (.bool (decide (x6>0))) (.bool false) undef undef (.bool false) (.bool false) M)):=by kernel_rfl
theorem k48_42:P48 [1,1,1,1,0,1,0,0,0,1,1]=.exit 0:=by kernel_rfl
theorem c48_43:P48 [1,1,1,1,0,1,0,0,1,0,0,1,1,1,0,1]=.cond (.tmp 50) (P48 [1,1,1,1,0,1,0,0,1,0,0,1,1,1,0,1,0]) (P48 [1,1,1,1,0,1,0,0,1,0,0,1,1,1,0,1,1]):=by kernel_rfl
theorem k48_44:P48 [1,1,1,1,0,1,0,0,1,0,0,1,1,1,0,1,0]=.seq (P48 [1,1,1,1,0,1,0,0,1,0,0,1,1,1,0,1,0,0]) (P48 [1,1,1,1,0,1,0,0,1,0,0,1,1,1,0,1,0,1]):=by kernel_rfl
theorem k48_45:P48 [1,1,1,1,0,1,0,0,1,0,0,1,1,1,0,1,0,0]=.region 13 (O48 [1,1,1,1,0,1,0,0,1,0,0,1,1,1,0,1,0,0]) false:=by kernel_rfl
theorem r48_13 {M:Mem} {call:CallM} {K:Array Value→Mem→R} :
 opsK Try.prog (fun _=>call) (O48 [1,1,1,1,0,1,0,0,1,0,0,1,1,1,0,1,0,0]) (O48 [1,1,1,1,0,1,0,0,1,0,0,1,1,1,0,1,0,0]).toList 0 #[g0,g1,g2,g3,g4,g5,g6,g7,g8,g9,gA,gB,gC,gD,gE,gF,gG,gH,gI,gJ,gK,gL,gM,gN,gO,gP,gQ,gR,gS,gT,gU,gV,gW,gX,gY,gZ,hA,hB,hC,hD,hE,hF,hG,hH,hI,hJ,hK,hL,hM,hN,hO,hP,hQ,hR,hS,hT,hU,hV,hW,hX,hY,hZ,h0,h1,h2,h3,h4,h5] M K=K #[g0,g1,.int .u32 0,.int .i64 4,g4,g5,g6,g7,g8,g9,gA,gB,gC,gD,gE,gF,gG,gH,gI,gJ,gK,gL,gM,gN,gO,gP,gQ,gR,gS,gT,gU,gV,gW,gX,gY,gZ,hA,hB,hC,hD,hE,hF,hG,hH,hI,hJ,hK,hL,hM,hN,hO,hP,hQ,hR,hS,hT,hU,hV,hW,hX,hY,hZ,h0,h1,h2,h3,h4,h5] M:=by kernel_rfl
theorem k48_46:P48 [1,1,1,1,0,1,0,0,1,0,0,1,1,1,0,1,0,1]=.ret:=by kernel_rfl
theorem k48_47:P48 [1,1,1,1,0,1,0,0,1,0,0,1,1,1,0,1,1]=.skip:=by kernel_rfl
theorem k48_48:P48 [1,1,1,1,0,1,0,0,1,0,0,1,1,1,1]=.seq (P48 [1,1,1,1,0,1,0,0,1,0,0,1,1,1,1,0]) (P48 [1,1,1,1,0,1,0,0,1,0,0,1,1,1,1,1]):=by kernel_rfl
theorem k48_49:P48 [1,1,1,1,0,1,0,0,1,0,0,1,1,1,1,0]=.region 14 (O48 [1,1,1,1,0,1,0,0,1,0,0,1,1,1,1,0]) false:=by kernel_rfl
theorem r48_14 {x4 x5 x8:Int} {M:Mem} {call:CallM} {K:Array Value→Mem→R} :
 opsK Try.prog (fun _=>call) (O48 [1,1,1,1,0,1,0,0,1,0,0,1,1,1,1,0]) (O48 [1,1,1,1,0,1,0,0,1,0,0,1,1,1,1,0]).toList 0 #[g0,g1,g2,g3,.int .u64 x4,.int .u64 x5,g6,g7,.int .u64 x8,g9,gA,gB,gC,gD,gE,gF,gG,gH,gI,gJ,gK,gL,gM,gN,gO,gP,gQ,gR,gS,gT,gU,gV,gW,gX,gY,gZ,hA,hB,hC,hD,hE,hF,hG,hH,hI,hJ,hK,hL,hM,hN,hO,hP,hQ,hR,hS,hT,hU,hV,hW,hX,hY,hZ,h0,h1,h2,h3,h4,h5] M K=K #[g0,g1,g2,g3,.int .u64 (IntKind.u64.wrap (x4+(IntKind.u64.wrap ((x8.tmod 128)*x5)))),.int .u64 x5,g6,g7,.int .u64 x8,g9,gA,gB,gC,gD,gE,gF,gG,gH,gI,gJ,gK,gL,gM,gN,gO,gP,gQ,gR,gS,gT,gU,gV,gW,gX,gY,gZ,hA,hB,hC,hD,hE,hF,hG,hH,hI,hJ,hK,hL,hM,hN,hO,.int .u64 x4,.int .u64 x8,.int .u64 (x8.tmod 128),.int .u64 x5,.int .u64 (IntKind.u64.wrap ((x8.tmod 128)*x5)),.int .u64 (IntKind.u64.wrap (x4+(IntKind.u64.wrap ((x8.tmod 128)*x5)))),hV,hW,hX,hY,hZ,h0,h1,h2,h3,h4,h5] M:=by kernel_rfl
theorem k48_50:P48 [1,1,1,1,0,1,0,0,1,0,0,1,1,1,1,1]=.seq (P48 [1,1,1,1,0,1,0,0,1,0,0,1,1,1,1,1,0]) (P48 [1,1,1,1,0,1,0,0,1,0,0,1,1,1,1,1,1]):=by kernel_rfl
theorem k48_51:P48 [1,1,1,1,0,1,0,0,1,0,0,1,1,1,1,1,0]=.region 15 (O48 [1,1,1,1,0,1,0,0,1,0,0,1,1,1,1,1,0]) false:=by kernel_rfl
theorem r48_15 {x5:Int} {M:Mem} {call:CallM} {K:Array Value→Mem→R} :
 opsK Try.prog (fun _=>call) (O48 [1,1,1,1,0,1,0,0,1,0,0,1,1,1,1,1,0]) (O48 [1,1,1,1,0,1,0,0,1,0,0,1,1,1,1,1,0]).toList 0 #[g0,g1,g2,g3,g4,.int .u64 x5,g6,g7,g8,g9,gA,gB,gC,gD,gE,gF,gG,gH,gI,gJ,gK,gL,gM,gN,gO,gP,gQ,gR,gS,gT,gU,gV,gW,gX,gY,gZ,hA,hB,hC,hD,hE,hF,hG,hH,hI,hJ,hK,hL,hM,hN,hO,hP,hQ,hR,hS,hT,hU,hV,hW,hX,hY,hZ,h0,h1,h2,h3,h4,h5] M K=K #[g0,g1,g2,g3,g4,.int .u64 (IntKind.u64.wrap (x5*128)),g6,g7,g8,g9,gA,gB,gC,gD,gE,gF,gG,gH,gI,gJ,gK,gL,gM,gN,gO,gP,gQ,gR,gS,gT,gU,gV,gW,gX,gY,gZ,hA,hB,hC,hD,hE,hF,hG,hH,hI,hJ,hK,hL,hM,hN,hO,hP,hQ,hR,hS,hT,hU,.int .u64 x5,.int .u64 (IntKind.u64.wrap (x5*128)),hX,hY,hZ,h0,h1,h2,h3,h4,h5] M:=by kernel_rfl
theorem k48_52:P48 [1,1,1,1,0,1,0,0,1,0,0,1,1,1,1,1,1]=.seq (P48 [1,1,1,1,0,1,0,0,1,0,0,1,1,1,1,1,1,0]) (P48 [1,1,1,1,0,1,0,0,1,0,0,1,1,1,1,1,1,1]):=by kernel_rfl
theorem k48_53:P48 [1,1,1,1,0,1,0,0,1,0,0,1,1,1,1,1,1,0]=.region 16 (O48 [1,1,1,1,0,1,0,0,1,0,0,1,1,1,1,1,1,0]) false:=by kernel_rfl
theorem r48_16 {x8:Int} {M:Mem} {call:CallM} {K:Array Value→Mem→R} :
 opsK Try.prog (fun _=>call) (O48 [1,1,1,1,0,1,0,0,1,0,0,1,1,1,1,1,1,0]) (O48 [1,1,1,1,0,1,0,0,1,0,0,1,1,1,1,1,1,0]).toList 0 #[g0,g1,g2,g3,g4,g5,g6,g7,.int .u64 x8,g9,gA,gB,gC,gD,gE,gF,gG,gH,gI,gJ,gK,gL,gM,gN,gO,gP,gQ,gR,gS,gT,gU,gV,gW,gX,gY,gZ,hA,hB,hC,hD,hE,hF,hG,hH,hI,hJ,hK,hL,hM,hN,hO,hP,hQ,hR,hS,hT,hU,hV,hW,hX,hY,hZ,h0,h1,h2,h3,h4,h5] M K=K #[g0,g1,g2,g3,g4,g5,g6,g7,.int .u64 x8,g9,gA,gB,gC,gD,gE,gF,gG,gH,gI,gJ,gK,gL,gM,gN,gO,gP,gQ,gR,gS,gT,gU,gV,gW,gX,gY,gZ,hA,hB,hC,hD,hE,hF,hG,hH,hI,hJ,hK,hL,hM,hN,hO,hP,hQ,hR,hS,hT,hU,hV,hW,.int .u64 x8,.bool (decide (x8<128)),hZ,h0,h1,h2,h3,h4,h5] M:=by kernel_rfl
theorem c48_54:P48 [1,1,1,1,0,1,0,0,1,0,0,1,1,1,1,1,1,1]=.cond (.tmp 60) (P48 [1,1,1,1,0,1,0,0,1,0,0,1,1,1,1,1,1,1,0]) (P48 [1,1,1,1,0,1,0,0,1,0,0,1,1,1,1,1,1,1,1]):=by kernel_rfl
theorem k48_55:P48 [1,1,1,1,0,1,0,0,1,0,0,1,1,1,1,1,1,1,0]=.seq (P48 [1,1,1,1,0,1,0,0,1,0,0,1,1,1,1,1,1,1,0,0]) (P48 [1,1,1,1,0,1,0,0,1,0,0,1,1,1,1,1,1,1,0,1]):=by kernel_rfl
theorem k48_56:P48 [1,1,1,1,0,1,0,0,1,0,0,1,1,1,1,1,1,1,0,0]=.region 17 (O48 [1,1,1,1,0,1,0,0,1,0,0,1,1,1,1,1,1,1,0,0]) false:=by kernel_rfl
theorem r48_17 {x0:Option Addr} {x7:Int} {M:Mem} {call:CallM} {K:Array Value→Mem→R} :
 opsK Try.prog (fun _=>call) (O48 [1,1,1,1,0,1,0,0,1,0,0,1,1,1,1,1,1,1,0,0]) (O48 [1,1,1,1,0,1,0,0,1,0,0,1,1,1,1,1,1,1,0,0]).toList 0 #[.pointer x0,g1,g2,g3,g4,g5,g6,.int .i64 x7,g8,g9,gA,gB,gC,gD,gE,gF,gG,gH,gI,gJ,gK,gL,gM,gN,gO,gP,gQ,gR,gS,gT,gU,gV,gW,gX,gY,gZ,hA,hB,hC,hD,hE,hF,hG,hH,hI,hJ,hK,hL,hM,hN,hO,hP,hQ,hR,hS,hT,hU,hV,hW,hX,hY,hZ,h0,h1,h2,h3,h4,h5] M K=(x0).bind fun a_1=>(M.put a_1.block (a_1.off+1) (.int .i64 (IntKind.i64.wrap (x7+8)))).bind fun M_2=>K #[.pointer x0,g1,g2,g3,g4,g5,g6,.int .i64 x7,g8,g9,gA,gB,gC,gD,gE,gF,gG,gH,gI,gJ,gK,gL,gM,gN,gO,gP,gQ,gR,gS,gT,gU,gV,gW,gX,gY,gZ,hA,hB,hC,hD,hE,hF,hG,hH,hI,hJ,hK,hL,hM,hN,hO,hP,hQ,hR,hS,hT,hU,hV,hW,hX,hY,.pointer x0,.int .i64 x7,.int .i64 (IntKind.i64.wrap (x7+8)),.pointer (some a_1),.pointer (some ⟨a_1.block,a_1.off+1,none⟩),h4,h5] M_2:=by kernel_rfl
theorem k48_57:P48 [1,1,1,1,0,1,0,0,1,0,0,1,1,1,1,1,1,1,0,1]=.exit 0:=by kernel_rfl
theorem k48_58:P48 [1,1,1,1,0,1,0,0,1,0,0,1,1,1,1,1,1,1,1]=.skip:=by kernel_rfl
theorem k48_59:P48 [1,1,1,1,0,1,0,0,1,1]=.region 7 (O48 [1,1,1,1,0,1,0,0,1,1]) false:=by kernel_rfl
theorem r48_7 {x6:Int} {M:Mem} {call:CallM} {K:Array Value→Mem→R} :
 opsK Try.prog (fun _=>call) (O48 [1,1,1,1,0,1,0,0,1,1]) (O48 [1,1,1,1,0,1,0,0,1,1]).toList 0 #[g0,g1,g2,g3,g4,g5,.int .i64 x6,g7,g8,g9,gA,gB,gC,gD,gE,gF,gG,gH,gI,gJ,gK,gL,gM,gN,gO,gP,gQ,gR,gS,gT,gU,gV,gW,gX,gY,gZ,hA,hB,hC,hD,hE,hF,hG,hH,hI,hJ,hK,hL,hM,hN,hO,hP,hQ,hR,hS,hT,hU,hV,hW,hX,hY,hZ,h0,h1,h2,h3,h4,h5] M K=K #[g0,g1,g2,g3,g4,g5,.int .i64 (IntKind.i64.wrap (x6+1)),g7,g8,g9,gA,gB,gC,gD,gE,gF,gG,.int .i64 x6,.int .i64 (IntKind.i64.wrap (x6+1)),gJ,gK,gL,gM,gN,gO,gP,gQ,gR,gS,gT,gU,gV,gW,gX,gY,gZ,hA,hB,hC,hD,hE,hF,hG,hH,hI,hJ,hK,hL,hM,hN,hO,hP,hQ,hR,hS,hT,hU,hV,hW,hX,hY,hZ,h0,h1,h2,h3,h4,h5] M:=by kernel_rfl
theorem k48_60:P48 [1,1,1,1,1]=.seq (P48 [1,1,1,1,1,0]) (P48 [1,1,1,1,1,1]):=by kernel_rfl
theorem k48_61:P48 [1,1,1,1,1,0]=.region 18 (O48 [1,1,1,1,1,0]) false:=by kernel_rfl
theorem r48_18 {x4:Int} {M:Mem} {call:CallM} {K:Array Value→Mem→R} :
 opsK Try.prog (fun _=>call) (O48 [1,1,1,1,1,0]) (O48 [1,1,1,1,1,0]).toList 0 #[g0,g1,g2,g3,.int .u64 x4,g5,g6,g7,g8,g9,gA,gB,gC,gD,gE,gF,gG,gH,gI,gJ,gK,gL,gM,gN,gO,gP,gQ,gR,gS,gT,gU,gV,gW,gX,gY,gZ,hA,hB,hC,hD,hE,hF,hG,hH,hI,hJ,hK,hL,hM,hN,hO,hP,hQ,hR,hS,hT,hU,hV,hW,hX,hY,hZ,h0,h1,h2,h3,h4,h5] M K=K #[g0,g1,.int .u32 (IntKind.u32.wrap (x4)),.int .i64 0,.int .u64 x4,g5,g6,g7,g8,g9,gA,gB,gC,gD,gE,gF,gG,gH,gI,gJ,gK,gL,gM,gN,gO,gP,gQ,gR,gS,gT,gU,gV,gW,gX,gY,gZ,hA,hB,hC,hD,hE,hF,hG,hH,hI,hJ,hK,hL,hM,hN,hO,hP,hQ,hR,hS,hT,hU,hV,hW,hX,hY,hZ,h0,h1,h2,h3,.int .u64 x4,.int .u32 (IntKind.u32.wrap (x4))] M:=by kernel_rfl
theorem k48_62:P48 [1,1,1,1,1,1]=.ret:=by kernel_rfl
noncomputable def S48_1:List Item:=[.code (P48 [1,1,1,1,0,1,0,0]),.inLoop (P48 [1,1,1,1,0,1,0,0]),.inBlock 0,.code (P48 [1,1,1,1,1])]
def A48_1 (x0:Option Addr) (x4 x5 x6:Int) (M:Mem) (Q:Value→Mem→Prop):Prop:=∀ (g1 g2 g3 g7 g8 g9 gA gB gC gD gE gF gG gH gI gJ gK gL gM gN gO gP gQ gR gS gT gU gV gW gX gY gZ hA hB hC hD hE hF hG hH hI hJ hK hL hM hN hO hP hQ hR hS hT hU hV hW hX hY hZ h0 h1 h2 h3 h4 h5:Value),Rn Try.prog Try.f48 S48_1 #[.pointer x0,g1,g2,g3,.int .u64 x4,.int .u64 x5,.int .i64 x6,g7,g8,g9,gA,gB,gC,gD,gE,gF,gG,gH,gI,gJ,gK,gL,gM,gN,gO,gP,gQ,gR,gS,gT,gU,gV,gW,gX,gY,gZ,hA,hB,hC,hD,hE,hF,hG,hH,hI,hJ,hK,hL,hM,hN,hO,hP,hQ,hR,hS,hT,hU,hV,hW,hX,hY,hZ,h0,h1,h2,h3,h4,h5] M Q
noncomputable def S48_2:List Item:=[.code (P48 [1,1,1,1,0,1,0,0,1,0,0,1,1,1,0,1]),.code (P48 [1,1,1,1,0,1,0,0,1,0,0,1,1,1,1]),.inBlock 1,.code (P48 [1,1,1,1,0,1,0,0,1,1]),.inLoop (P48 [1,1,1,1,0,1,0,0]),.inBlock 0,.code (P48 [1,1,1,1,1])]
def A48_2 (x0:Option Addr) (x4 x5 x6 x7 x8:Int) (x50:Bool) (M:Mem) (Q:Value→Mem→Prop):Prop:=∀ (g1 g2 g3 g9 gA gB gC gD gE gF gG gH gI gJ gK gL gM gN gO gP gQ gR gS gT gU gV gW gX gY gZ hA hB hC hD hE hF hG hH hI hJ hK hL hM hN hP hQ hR hS hT hU hV hW hX hY hZ h0 h1 h2 h3 h4 h5:Value),Rn Try.prog Try.f48 S48_2 #[.pointer x0,g1,g2,g3,.int .u64 x4,.int .u64 x5,.int .i64 x6,.int .i64 x7,.int .u64 x8,g9,gA,gB,gC,gD,gE,gF,gG,gH,gI,gJ,gK,gL,gM,gN,gO,gP,gQ,gR,gS,gT,gU,gV,gW,gX,gY,gZ,hA,hB,hC,hD,hE,hF,hG,hH,hI,hJ,hK,hL,hM,hN,.bool x50,hP,hQ,hR,hS,hT,hU,hV,hW,hX,hY,hZ,h0,h1,h2,h3,h4,h5] M Q
noncomputable def S48_3:List Item:=[.code (P48 [1,1,1,1,1])]
def A48_3 (x4:Int) (M:Mem) (Q:Value→Mem→Prop):Prop:=∀ (g0 g1 g2 g3 g5 g6 g7 g8 g9 gA gB gC gD gE gF gG gH gI gJ gK gL gM gN gO gP gQ gR gS gT gU gV gW gX gY gZ hA hB hC hD hE hF hG hH hI hJ hK hL hM hN hO hP hQ hR hS hT hU hV hW hX hY hZ h0 h1 h2 h3 h4 h5:Value),Rn Try.prog Try.f48 S48_3 #[g0,g1,g2,g3,.int .u64 x4,g5,g6,g7,g8,g9,gA,gB,gC,gD,gE,gF,gG,gH,gI,gJ,gK,gL,gM,gN,gO,gP,gQ,gR,gS,gT,gU,gV,gW,gX,gY,gZ,hA,hB,hC,hD,hE,hF,hG,hH,hI,hJ,hK,hL,hM,hN,hO,hP,hQ,hR,hS,hT,hU,hV,hW,hX,hY,hZ,h0,h1,h2,h3,h4,h5] M Q
theorem w48_0 {x0:Option Addr} {M:Mem} {Q:Value→Mem→Prop} (H :
 ∃a1',x0=some a1'∧
 ∃x2',M.intAt .i64 a1'.block (a1'.off+1)=some x2'∧
 (((x2'.tmod 8)≠0→
 Q (.tuple #[.int .u32 0,.int .i64 2]) M)∧
 ((x2'.tmod 8)=0→
 A48_1 x0 0 1 0 M Q))):
 Cn Try.prog 48 #[.pointer x0] M Q:=by
  refine Cn.of b48 d48 t48 ?_
  refine Rn.seq k48_0 (Rn.region k48_1 (fun call K=>r48_0) (Rch.leaf (Rn.seq k48_2 (Rn.seq k48_3 (Rn.region k48_4 (fun call K=>r48_1) (Rch.ex H fun a1' H=>Rch.ex H fun x2' H=>Rch.leaf ?_))))))
  refine Rn.cnd (v:=(x2'.tmod 8) != 0) ⟨c48_5,rfl,by kernel_rfl⟩ (fun h=>?_) (fun h=>?_)
  · replace H:=H.1 (ne_of_bneT h)
    refine Rn.seq k48_6 (Rn.region k48_7 (fun call K=>r48_2) (Rch.leaf ?_))
    exact Rn.ret k48_8 e48 H
  · replace H:=H.2 (eq_of_bneF h)
    refine Rn.skip k48_10 (Rn.seq k48_11 (Rn.region k48_12 (fun call K=>r48_3) (Rch.leaf (Rn.seq k48_13 (Rn.region k48_14 (fun call K=>r48_4) (Rch.leaf (Rn.seq k48_15 (Rn.seq k48_16 (Rn.region k48_17 (fun call K=>r48_5) (Rch.leaf (Rn.block k48_18 ?_)))))))))))
    refine Rn.loop k48_19 ?_
    exact H ..
theorem w48_1 {x0:Option Addr} {x4 x5 x6:Int} {M:Mem} {Q:Value→Mem→Prop} (H :
 ((x6<5→
 ∃a3',x0=some a3'∧
 ∃x4',M.intAt .i64 a3'.block (a3'.off+1)=some x4'∧
 ∃a5',x0=some a5'∧
 ∃s6',M.slAt a5'.block a5'.off=some s6'∧
 (((IntKind.i64.wrap ((IntKind.i64.wrap (x4'+(IntKind.i64.wrap (8*x6))))+8))>((s6'.2.1:Int))→
 Q (.tuple #[.int .u32 0,.int .i64 3]) M)∧
 (¬((IntKind.i64.wrap ((IntKind.i64.wrap (x4'+(IntKind.i64.wrap (8*x6))))+8))>((s6'.2.1:Int)))→
 Cn Try.prog 57 #[.pointer x0,.int .i64 (IntKind.i64.wrap (x4'+(IntKind.i64.wrap (8*x6)))),.int .i64 8] M fun v7' N7'=>
 ∃x8',asI .u64 v7'=some x8'∧
 ((x6=4→
 ((x8'>15→
 A48_2 x0 x4 x5 x6 (IntKind.i64.wrap (x4'+(IntKind.i64.wrap (8*x6)))) x8' true N7' Q)∧
 (¬(x8'>15)→
 ((x6>0→
 A48_2 x0 x4 x5 x6 (IntKind.i64.wrap (x4'+(IntKind.i64.wrap (8*x6)))) x8' (x8' == 0) N7' Q)∧
 (¬(x6>0)→
 A48_2 x0 x4 x5 x6 (IntKind.i64.wrap (x4'+(IntKind.i64.wrap (8*x6)))) x8' false N7' Q)))))∧
 (x6≠4→
 ((x6>0→
 A48_2 x0 x4 x5 x6 (IntKind.i64.wrap (x4'+(IntKind.i64.wrap (8*x6)))) x8' (x8' == 0) N7' Q)∧
 (¬(x6>0)→
 A48_2 x0 x4 x5 x6 (IntKind.i64.wrap (x4'+(IntKind.i64.wrap (8*x6)))) x8' false N7' Q)))))))∧
 (¬(x6<5)→
 A48_3 x4 M Q))):
 A48_1 x0 x4 x5 x6 M Q:=by
  iterate 64 intro _
  refine Rn.seq k48_20 (Rn.seq k48_21 (Rn.region k48_22 (fun call K=>r48_6) (Rch.leaf ?_)))
  refine Rn.cnd (v:=decide (x6<5)) ⟨c48_23,rfl,by kernel_rfl⟩ (fun h=>?_) (fun h=>?_)
  · replace H:=H.1 (of_decide_eq_true h)
    refine Rn.skip k48_24 (Rn.seq k48_25 (Rn.block k48_26 (Rn.seq k48_27 (Rn.region k48_28 (fun call K=>r48_8) (Rch.ex H fun a3' H=>Rch.ex H fun x4' H=>Rch.leaf (Rn.seq k48_29 (Rn.seq k48_30 (Rn.region k48_31 (fun call K=>r48_9) (Rch.ex H fun a5' H=>?_)))))))))
    refine Rch.ex H fun s6' H=>Rch.leaf ?_
    refine Rn.cnd (v:=decide ((IntKind.i64.wrap ((IntKind.i64.wrap (x4'+(IntKind.i64.wrap (8*x6))))+8))>((s6'.2.1:Int)))) ⟨c48_32,rfl,by kernel_rfl⟩ (fun h=>?_) (fun h=>?_)
    · replace H:=H.1 (of_decide_eq_true h)
      refine Rn.seq k48_33 (Rn.region k48_34 (fun call K=>r48_10) (Rch.leaf ?_))
      exact Rn.ret k48_35 e48 H
    · replace H:=H.2 (of_decide_eq_false h)
      refine Rn.skip k48_36 (Rn.seq k48_37 (Rn.region k48_38 (fun call K=>r48_11) (Rch.call H fun v7' N7' H=>Rch.ex H fun x8' H=>Rch.leaf (Rn.seq k48_39 (Rn.seq k48_40 (Rn.region k48_41 (fun call K=>r48_12) ?_))))))
      refine Rch.cB (fun h=>?_) (fun h=>?_)
      · replace H:=H.1 (eq_of_beq h)
        refine Rch.cB (fun h=>?_) (fun h=>?_)
        · replace H:=H.1 (of_decide_eq_true h)
          refine Rch.leaf ?_
          exact H ..
        · replace H:=H.2 (of_decide_eq_false h)
          refine Rch.cB (fun h=>?_) (fun h=>?_)
          · replace H:=H.1 (of_decide_eq_true h)
            refine Rch.leaf ?_
            exact H ..
          · replace H:=H.2 (of_decide_eq_false h)
            refine Rch.leaf ?_
            exact H ..
      · replace H:=H.2 (ne_of_beq_false h)
        refine Rch.cB (fun h=>?_) (fun h=>?_)
        · replace H:=H.1 (of_decide_eq_true h)
          refine Rch.leaf ?_
          exact H ..
        · replace H:=H.2 (of_decide_eq_false h)
          refine Rch.leaf ?_
          exact H ..
  · replace H:=H.2 (of_decide_eq_false h)
    refine Rn.exit k48_42 rfl ?_
    exact H ..
theorem w48_2 {x0:Option Addr} {x4 x5 x6 x7 x8:Int} {x50:Bool} {M:Mem} {Q:Value→Mem→Prop} (H :
 ((x50=true→
 Q (.tuple #[.int .u32 0,.int .i64 4]) M)∧
 (x50=false→
 ((x8<128→
 ∃a9',x0=some a9'∧
 ∃M10',M.put a9'.block (a9'.off+1) (.int .i64 (IntKind.i64.wrap (x7+8)))=some M10'∧
 A48_3 (IntKind.u64.wrap (x4+(IntKind.u64.wrap ((x8.tmod 128)*x5)))) M10' Q)∧
 (¬(x8<128)→
 A48_1 x0 (IntKind.u64.wrap (x4+(IntKind.u64.wrap ((x8.tmod 128)*x5)))) (IntKind.u64.wrap (x5*128)) (IntKind.i64.wrap (x6+1)) M Q))))):
 A48_2 x0 x4 x5 x6 x7 x8 x50 M Q:=by
  iterate 61 intro _
  refine Rn.cnd (v:=x50) ⟨c48_43,rfl,by kernel_rfl⟩ (fun h=>?_) (fun h=>?_)
  · replace H:=H.1 (h)
    refine Rn.seq k48_44 (Rn.region k48_45 (fun call K=>r48_13) (Rch.leaf ?_))
    exact Rn.ret k48_46 e48 H
  · replace H:=H.2 (h)
    refine Rn.skip k48_47 (Rn.seq k48_48 (Rn.region k48_49 (fun call K=>r48_14) (Rch.leaf (Rn.seq k48_50 (Rn.region k48_51 (fun call K=>r48_15) (Rch.leaf (Rn.seq k48_52 (Rn.region k48_53 (fun call K=>r48_16) (Rch.leaf ?_)))))))))
    refine Rn.cnd (v:=decide (x8<128)) ⟨c48_54,rfl,by kernel_rfl⟩ (fun h=>?_) (fun h=>?_)
    · replace H:=H.1 (of_decide_eq_true h)
      refine Rn.seq k48_55 (Rn.region k48_56 (fun call K=>r48_17) (Rch.ex H fun a9' H=>Rch.ex H fun M10' H=>Rch.leaf (Rn.exit k48_57 rfl ?_)))
      exact H ..
    · replace H:=H.2 (of_decide_eq_false h)
      refine Rn.skip k48_58 (Rn.blk (Rn.region k48_59 (fun call K=>r48_7) (Rch.leaf (Rn.lp ?_))))
      exact H ..
theorem w48_3 {x4:Int} {M:Mem} {Q:Value→Mem→Prop} (H :
 Q (.tuple #[.int .u32 (IntKind.u32.wrap (x4)),.int .i64 0]) M):
 A48_3 x4 M Q:=by
  iterate 67 intro _
  refine Rn.seq k48_60 (Rn.region k48_61 (fun call K=>r48_18) (Rch.leaf ?_))
  exact Rn.ret k48_62 e48 H
noncomputable abbrev P49 (p:List Nat):Code:=subC (codeOf Try.f49) p
noncomputable abbrev O49 (p:List Nat):Array Oper:=opsOf (subC (codeOf Try.f49) p)
theorem b49:Try.prog.funcs[49]?=some Try.f49∧(Orc.tab Try.prog).lookup 49=none:=⟨by kernel_rfl,by kernel_rfl⟩
theorem d49:Try.f49.body=some (P49 []):=by kernel_rfl
theorem t49 {x0:Option Addr}:#[.pointer x0] ++ Array.replicate (Try.f49.ntmps-(#[.pointer x0]:Array Value).size) undef=#[.pointer x0,undef,undef,undef,undef,undef,undef,undef,undef,undef,undef,undef,undef,undef,undef,undef]:=by kernel_rfl
theorem k49_0:P49 []=.seq (P49 [0]) (P49 [1]):=by kernel_rfl
theorem k49_1:P49 [0]=.region 0 (O49 [0]) false:=by kernel_rfl
theorem r49_0 {M:Mem} {call:CallM} {K:Array Value→Mem→R} :
 opsK Try.prog (fun _=>call) (O49 [0]) (O49 [0]).toList 0 #[g0,g1,g2,g3,g4,g5,g6,g7,g8,g9,gA,gB,gC,gD,gE,gF] M K=K #[g0,g1,.slice none 0 0,g3,g4,g5,g6,g7,g8,g9,gA,gB,gC,gD,gE,gF] M:=by kernel_rfl
theorem k49_2:P49 [1]=.seq (P49 [1,0]) (P49 [1,1]):=by kernel_rfl
theorem k49_3:P49 [1,0]=.region 1 (O49 [1,0]) true∧drawOk (O49 [1,0])=true:=⟨by kernel_rfl,by kernel_rfl⟩
theorem r49_1 {x0:Option Addr} {M:Mem} {call:CallM} {K:Array Value→Mem→R} :
    opsI Try.prog (callAt call (O49 [1,0])) (O49 [1,0]) (ordOf (O49 [1,0])) [] #[.pointer x0,g1,g2,g3,g4,g5,g6,g7,g8,g9,gA,gB,gC,gD,gE,gF] M K=(x0).bind fun a_1=>(M.slAt a_1.block a_1.off).bind fun s_2=>(x0).bind fun a_3=>(M.intAt .i64 a_3.block (a_3.off+1)).bind fun x_4=>(sliceP Try.prog 22 (.slice s_2.1 (s_2.2.1) (s_2.2.2)) (some (.int .i64 (IntKind.i64.wrap ((IntKind.i64.wrap ((IntKind.i64.wrap (x_4+7)).tdiv 8))*8)))) none none).bind fun v_5=>(asS v_5).bind fun s_6=>(call 54 #[.slice s_6.1 (s_6.2.1) (s_6.2.2)] M).bind fun r_7=>(asS r_7.1).bind fun s_8=>K #[.pointer x0,g1,.slice s_8.1 (s_8.2.1) (s_8.2.2),.pointer x0,.pointer (some a_1),.pointer (some ⟨a_1.block,a_1.off,none⟩),.slice s_2.1 (s_2.2.1) (s_2.2.2),.pointer x0,.pointer (some a_3),.pointer (some ⟨a_3.block,a_3.off+1,none⟩),.int .i64 x_4,.int .i64 (IntKind.i64.wrap (x_4+7)),.int .i64 (IntKind.i64.wrap ((IntKind.i64.wrap (x_4+7)).tdiv 8)),.int .i64 (IntKind.i64.wrap ((IntKind.i64.wrap ((IntKind.i64.wrap (x_4+7)).tdiv 8))*8)),.slice s_6.1 (s_6.2.1) (s_6.2.2),.slice s_8.1 (s_8.2.1) (s_8.2.2)] r_7.2:=by kernel_rfl
theorem k49_4:P49 [1,1]=.ret:=by kernel_rfl
theorem e49 {M:Mem}:finish Try.prog Try.f49 #[g0,g1,g2,g3,g4,g5,g6,g7,g8,g9,gA,gB,gC,gD,gE,gF] M=some (g2,M):=by kernel_rfl
theorem w49_0 {x0:Option Addr} {M:Mem} {Q:Value→Mem→Prop} (H :
 ∃a1',x0=some a1'∧
 ∃s2',M.slAt a1'.block a1'.off=some s2'∧
 ∃a3',x0=some a3'∧
 ∃x4',M.intAt .i64 a3'.block (a3'.off+1)=some x4'∧
 ∃v5',sliceP Try.prog 22 (.slice s2'.1 (s2'.2.1) (s2'.2.2)) (some (.int .i64 (IntKind.i64.wrap ((IntKind.i64.wrap ((IntKind.i64.wrap (x4'+7)).tdiv 8))*8)))) none none=some v5'∧
 ∃s6',asS v5'=some s6'∧
 Cn Try.prog 54 #[.slice s6'.1 (s6'.2.1) (s6'.2.2)] M fun v7' N7'=>
 ∃s8',asS v7'=some s8'∧
 Q (.slice s8'.1 (s8'.2.1) (s8'.2.2)) N7'):
 Cn Try.prog 49 #[.pointer x0] M Q:=by
  refine Cn.of b49 d49 t49 ?_
  refine Rn.seq k49_0 (Rn.region k49_1 (fun call K=>r49_0) (Rch.leaf (Rn.seq k49_2 (Rn.regionD k49_3 (fun call K=>r49_1) (Rch.ex H fun a1' H=>Rch.ex H fun s2' H=>Rch.ex H fun a3' H=>Rch.ex H fun x4' H=>Rch.ex H fun v5' H=>Rch.ex H fun s6' H=>Rch.call H fun v7' N7' H=>?_)))))
  refine Rch.ex H fun s8' H=>Rch.leaf ?_
  exact Rn.ret k49_4 e49 H
noncomputable abbrev P36 (p:List Nat):Code:=subC (codeOf Try.f36) p
noncomputable abbrev O36 (p:List Nat):Array Oper:=opsOf (subC (codeOf Try.f36) p)
theorem b36:Try.prog.funcs[36]?=some Try.f36∧(Orc.tab Try.prog).lookup 36=none:=⟨by kernel_rfl,by kernel_rfl⟩
theorem d36:Try.f36.body=some (P36 []):=by kernel_rfl
theorem t36:#[] ++ Array.replicate (Try.f36.ntmps-(#[]:Array Value).size) undef=#[undef,undef,undef]:=by kernel_rfl
theorem k36_0:P36 []=.seq (P36 [0]) (P36 [1]):=by kernel_rfl
theorem k36_1:P36 [0]=.region 0 (O36 [0]) false:=by kernel_rfl
theorem r36_0 {M:Mem} {call:CallM} {K:Array Value→Mem→R} :
 opsK Try.prog (fun _=>call) (O36 [0]) (O36 [0]).toList 0 #[g0,g1,g2] M K=K #[.pointer none,g1,g2] M:=by kernel_rfl
theorem k36_2:P36 [1]=.seq (P36 [1,0]) (P36 [1,1]):=by kernel_rfl
theorem k36_3:P36 [1,0]=.region 1 (O36 [1,0]) false:=by kernel_rfl
theorem r36_1 {M:Mem} {call:CallM} {K:Array Value→Mem→R} :
 opsK Try.prog (fun _=>call) (O36 [1,0]) (O36 [1,0]).toList 0 #[g0,g1,g2] M K=K #[.pointer (some ⟨2*M.nb.size,0,none⟩),.agg #[.slice none 0 0,.int .i64 0,.bool true],.pointer (some ⟨2*M.nb.size,0,none⟩)] (M.new (.cells #[.slice none 0 0,.int .i64 0,.bool true] 82)):=by kernel_rfl
theorem k36_4:P36 [1,1]=.ret:=by kernel_rfl
theorem e36 {M:Mem}:finish Try.prog Try.f36 #[g0,g1,g2] M=some (g0,M):=by kernel_rfl
theorem w36_0 {M:Mem} {Q:Value→Mem→Prop} (H :
 Q (.pointer (some ⟨2*M.nb.size,0,none⟩)) (M.new (.cells #[.slice none 0 0,.int .i64 0,.bool true] 82))):
 Cn Try.prog 36 #[] M Q:=by
  refine Cn.of b36 d36 t36 ?_
  refine Rn.seq k36_0 (Rn.region k36_1 (fun call K=>r36_0) (Rch.leaf (Rn.seq k36_2 (Rn.region k36_3 (fun call K=>r36_1) (Rch.leaf ?_)))))
  exact Rn.ret k36_4 e36 H
noncomputable abbrev P37 (p:List Nat):Code:=subC (codeOf Try.f37) p
noncomputable abbrev O37 (p:List Nat):Array Oper:=opsOf (subC (codeOf Try.f37) p)
theorem b37:Try.prog.funcs[37]?=some Try.f37∧(Orc.tab Try.prog).lookup 37=none:=⟨by kernel_rfl,by kernel_rfl⟩
theorem d37:Try.f37.body=some (P37 []):=by kernel_rfl
theorem t37 {x0:Option Addr} {x1:Int}:#[.pointer x0,.int .u32 x1] ++ Array.replicate (Try.f37.ntmps-(#[.pointer x0,.int .u32 x1]:Array Value).size) undef=#[.pointer x0,.int .u32 x1,undef,undef,undef,undef,undef,undef,undef,undef,undef,undef,undef,undef,undef,undef,undef,undef,undef,undef,undef,undef,undef,undef,undef,undef,undef]:=by kernel_rfl
theorem k37_0:P37 []=.seq (P37 [0]) (P37 [1]):=by kernel_rfl
theorem k37_1:P37 [0]=.region 0 (O37 [0]) false:=by kernel_rfl
theorem r37_0 {M:Mem} {call:CallM} {K:Array Value→Mem→R} :
 opsK Try.prog (fun _=>call) (O37 [0]) (O37 [0]).toList 0 #[g0,g1,g2,g3,g4,g5,g6,g7,g8,g9,gA,gB,gC,gD,gE,gF,gG,gH,gI,gJ,gK,gL,gM,gN,gO,gP,gQ] M K=K #[g0,g1,g2,g3,.int .i64 0,g5,g6,g7,g8,g9,gA,gB,gC,gD,gE,gF,gG,gH,gI,gJ,gK,gL,gM,gN,gO,gP,gQ] M:=by kernel_rfl
theorem k37_2:P37 [1]=.seq (P37 [1,0]) (P37 [1,1]):=by kernel_rfl
theorem k37_3:P37 [1,0]=.seq (P37 [1,0,0]) (P37 [1,0,1]):=by kernel_rfl
theorem k37_4:P37 [1,0,0]=.region 1 (O37 [1,0,0]) false:=by kernel_rfl
theorem r37_1 {x0:Option Addr} {M:Mem} {call:CallM} {K:Array Value→Mem→R} :
 opsK Try.prog (fun _=>call) (O37 [1,0,0]) (O37 [1,0,0]).toList 0 #[.pointer x0,g1,g2,g3,g4,g5,g6,g7,g8,g9,gA,gB,gC,gD,gE,gF,gG,gH,gI,gJ,gK,gL,gM,gN,gO,gP,gQ] M K=(call 51 #[.pointer x0] M).bind fun r_1=>(asB r_1.1).bind fun b_2=>K #[.pointer x0,g1,g2,g3,g4,.pointer x0,.bool b_2,.bool (!b_2),g8,g9,gA,gB,gC,gD,gE,gF,gG,gH,gI,gJ,gK,gL,gM,gN,gO,gP,gQ] r_1.2:=by kernel_rfl
theorem c37_5:P37 [1,0,1]=.cond (.tmp 7) (P37 [1,0,1,0]) (P37 [1,0,1,1]):=by kernel_rfl
theorem k37_6:P37 [1,0,1,0]=.seq (P37 [1,0,1,0,0]) (P37 [1,0,1,0,1]):=by kernel_rfl
theorem k37_7:P37 [1,0,1,0,0]=.region 2 (O37 [1,0,1,0,0]) false:=by kernel_rfl
theorem r37_2 {M:Mem} {call:CallM} {K:Array Value→Mem→R} :
 opsK Try.prog (fun _=>call) (O37 [1,0,1,0,0]) (O37 [1,0,1,0,0]).toList 0 #[g0,g1,g2,g3,g4,g5,g6,g7,g8,g9,gA,gB,gC,gD,gE,gF,gG,gH,gI,gJ,gK,gL,gM,gN,gO,gP,gQ] M K=K #[g0,g1,g2,g3,.int .i64 1,g5,g6,g7,g8,g9,gA,gB,gC,gD,gE,gF,gG,gH,gI,gJ,gK,gL,gM,gN,gO,gP,gQ] M:=by kernel_rfl
theorem k37_8:P37 [1,0,1,0,1]=.ret:=by kernel_rfl
theorem e37 {M:Mem}:finish Try.prog Try.f37 #[g0,g1,g2,g3,g4,g5,g6,g7,g8,g9,gA,gB,gC,gD,gE,gF,gG,gH,gI,gJ,gK,gL,gM,gN,gO,gP,gQ] M=some (g4,M):=by kernel_rfl
theorem k37_10:P37 [1,0,1,1]=.skip:=by kernel_rfl
theorem k37_11:P37 [1,1]=.seq (P37 [1,1,0]) (P37 [1,1,1]):=by kernel_rfl
theorem k37_12:P37 [1,1,0]=.seq (P37 [1,1,0,0]) (P37 [1,1,0,1]):=by kernel_rfl
theorem k37_13:P37 [1,1,0,0]=.region 3 (O37 [1,1,0,0]) false:=by kernel_rfl
theorem r37_3 {x0:Option Addr} {M:Mem} {call:CallM} {K:Array Value→Mem→R} :
 opsK Try.prog (fun _=>call) (O37 [1,1,0,0]) (O37 [1,1,0,0]).toList 0 #[.pointer x0,g1,g2,g3,g4,g5,g6,g7,g8,g9,gA,gB,gC,gD,gE,gF,gG,gH,gI,gJ,gK,gL,gM,gN,gO,gP,gQ] M K=(x0).bind fun a_1=>(M.intAt .i64 a_1.block (a_1.off+1)).bind fun x_2=>K #[.pointer x0,g1,g2,g3,g4,g5,g6,g7,.pointer x0,.pointer (some a_1),.pointer (some ⟨a_1.block,a_1.off+1,none⟩),.int .i64 x_2,.bool (decide (x_2>0)),gD,gE,gF,gG,gH,gI,gJ,gK,gL,gM,gN,gO,gP,gQ] M:=by kernel_rfl
theorem c37_14:P37 [1,1,0,1]=.cond (.tmp 12) (P37 [1,1,0,1,0]) (P37 [1,1,0,1,1]):=by kernel_rfl
theorem k37_15:P37 [1,1,0,1,0]=.seq (P37 [1,1,0,1,0,0]) (P37 [1,1,0,1,0,1]):=by kernel_rfl
theorem k37_16:P37 [1,1,0,1,0,0]=.region 4 (O37 [1,1,0,1,0,0]) false:=by kernel_rfl
theorem r37_4 {M:Mem} {call:CallM} {K:Array Value→Mem→R} :
 opsK Try.prog (fun _=>call) (O37 [1,1,0,1,0,0]) (O37 [1,1,0,1,0,0]).toList 0 #[g0,g1,g2,g3,g4,g5,g6,g7,g8,g9,gA,gB,gC,gD,gE,gF,gG,gH,gI,gJ,gK,gL,gM,gN,gO,gP,gQ] M K=K #[g0,g1,g2,g3,.int .i64 2,g5,g6,g7,g8,g9,gA,gB,gC,gD,gE,gF,gG,gH,gI,gJ,gK,gL,gM,gN,gO,gP,gQ] M:=by kernel_rfl
theorem k37_17:P37 [1,1,0,1,0,1]=.ret:=by kernel_rfl
theorem k37_18:P37 [1,1,0,1,1]=.skip:=by kernel_rfl
theorem k37_19:P37 [1,1,1]=.seq (P37 [1,1,1,0]) (P37 [1,1,1,1]):=by kernel_rfl
theorem k37_20:P37 [1,1,1,0]=.block 0 (P37 [1,1,1,0,0]):=by kernel_rfl
theorem k37_21:P37 [1,1,1,0,0]=.loop (P37 [1,1,1,0,0,0]):=by kernel_rfl
theorem k37_22:P37 [1,1,1,0,0,0]=.seq (P37 [1,1,1,0,0,0,0]) (P37 [1,1,1,0,0,0,1]):=by kernel_rfl
theorem k37_23:P37 [1,1,1,0,0,0,0]=.seq (P37 [1,1,1,0,0,0,0,0]) (P37 [1,1,1,0,0,0,0,1]):=by kernel_rfl
theorem k37_24:P37 [1,1,1,0,0,0,0,0]=.region 5 (O37 [1,1,1,0,0,0,0,0]) false:=by kernel_rfl
theorem r37_5 {x1:Int} {M:Mem} {call:CallM} {K:Array Value→Mem→R} :
 opsK Try.prog (fun _=>call) (O37 [1,1,1,0,0,0,0,0]) (O37 [1,1,1,0,0,0,0,0]).toList 0 #[g0,.int .u32 x1,g2,g3,g4,g5,g6,g7,g8,g9,gA,gB,gC,gD,gE,gF,gG,gH,gI,gJ,gK,gL,gM,gN,gO,gP,gQ] M K=K #[g0,.int .u32 x1,g2,g3,g4,g5,g6,g7,g8,g9,gA,gB,gC,.int .u32 x1,.bool (decide (x1>127)),gF,gG,gH,gI,gJ,gK,gL,gM,gN,gO,gP,gQ] M:=by kernel_rfl
theorem c37_25:P37 [1,1,1,0,0,0,0,1]=.cond (.tmp 14) (P37 [1,1,1,0,0,0,0,1,0]) (P37 [1,1,1,0,0,0,0,1,1]):=by kernel_rfl
theorem k37_26:P37 [1,1,1,0,0,0,0,1,0]=.skip:=by kernel_rfl
theorem k37_27:P37 [1,1,1,0,0,0,1]=.seq (P37 [1,1,1,0,0,0,1,0]) (P37 [1,1,1,0,0,0,1,1]):=by kernel_rfl
theorem k37_28:P37 [1,1,1,0,0,0,1,0]=.block 1 (P37 [1,1,1,0,0,0,1,0,0]):=by kernel_rfl
theorem k37_29:P37 [1,1,1,0,0,0,1,0,0]=.region 7 (O37 [1,1,1,0,0,0,1,0,0]) false:=by kernel_rfl
theorem r37_7 {x0:Option Addr} {x1:Int} {M:Mem} {call:CallM} {K:Array Value→Mem→R} :
 opsK Try.prog (fun _=>call) (O37 [1,1,1,0,0,0,1,0,0]) (O37 [1,1,1,0,0,0,1,0,0]).toList 0 #[.pointer x0,.int .u32 x1,g2,g3,g4,g5,g6,g7,g8,g9,gA,gB,gC,gD,gE,gF,gG,gH,gI,gJ,gK,gL,gM,gN,gO,gP,gQ] M K=(call 52 #[.pointer x0,.int .u64 (IntKind.u64.wrap (IntKind.u32.wrap (((BitVec.ofInt (IntKind.bits .u32) (IntKind.u32.wrap (((BitVec.ofInt (IntKind.bits .u32) x1 &&& BitVec.ofInt (IntKind.bits .u32) 127).toNat:Int))) ||| BitVec.ofInt (IntKind.bits .u32) 128).toNat:Int)))),.int .i64 8] M).bind fun r_1=>K #[.pointer x0,.int .u32 x1,g2,g3,g4,g5,g6,g7,g8,g9,gA,gB,gC,gD,gE,gF,gG,.pointer x0,.int .u32 x1,.int .u32 (IntKind.u32.wrap (((BitVec.ofInt (IntKind.bits .u32) x1 &&& BitVec.ofInt (IntKind.bits .u32) 127).toNat:Int))),.int .u32 (IntKind.u32.wrap (((BitVec.ofInt (IntKind.bits .u32) (IntKind.u32.wrap (((BitVec.ofInt (IntKind.bits .u32) x1 &&& BitVec.ofInt (IntKind.bits .u32) 127).toNat:Int))) ||| BitVec.ofInt (IntKind.bits .u32) 128).toNat:Int))),.int .u64 (IntKind.u64.wrap (IntKind.u32.wrap (((BitVec.ofInt (IntKind.bits .u32) (IntKind.u32.wrap (((BitVec.ofInt (IntKind.bits .u32) x1 &&& BitVec.ofInt (IntKind.bits .u32) 127).toNat:Int))) ||| BitVec.ofInt (IntKind.bits .u32) 128).toNat:Int)))),r_1.1,gN,gO,gP,gQ] r_1.2:=by kernel_rfl
theorem k37_30:P37 [1,1,1,0,0,0,1,1]=.region 6 (O37 [1,1,1,0,0,0,1,1]) false:=by kernel_rfl
theorem r37_6 {x1:Int} {M:Mem} {call:CallM} {K:Array Value→Mem→R} :
 opsK Try.prog (fun _=>call) (O37 [1,1,1,0,0,0,1,1]) (O37 [1,1,1,0,0,0,1,1]).toList 0 #[g0,.int .u32 x1,g2,g3,g4,g5,g6,g7,g8,g9,gA,gB,gC,gD,gE,gF,gG,gH,gI,gJ,gK,gL,gM,gN,gO,gP,gQ] M K=K #[g0,.int .u32 (x1.fdiv (2 ^ 7)),g2,g3,g4,g5,g6,g7,g8,g9,gA,gB,gC,gD,gE,.int .u32 x1,.int .u32 (x1.fdiv (2 ^ 7)),gH,gI,gJ,gK,gL,gM,gN,gO,gP,gQ] M:=by kernel_rfl
theorem k37_31:P37 [1,1,1,0,0,0,0,1,1]=.exit 0:=by kernel_rfl
theorem k37_32:P37 [1,1,1,1]=.seq (P37 [1,1,1,1,0]) (P37 [1,1,1,1,1]):=by kernel_rfl
theorem k37_33:P37 [1,1,1,1,0]=.region 8 (O37 [1,1,1,1,0]) false:=by kernel_rfl
theorem r37_8 {x0:Option Addr} {x1:Int} {M:Mem} {call:CallM} {K:Array Value→Mem→R} :
 opsK Try.prog (fun _=>call) (O37 [1,1,1,1,0]) (O37 [1,1,1,1,0]).toList 0 #[.pointer x0,.int .u32 x1,g2,g3,g4,g5,g6,g7,g8,g9,gA,gB,gC,gD,gE,gF,gG,gH,gI,gJ,gK,gL,gM,gN,gO,gP,gQ] M K=(call 52 #[.pointer x0,.int .u64 (IntKind.u64.wrap (x1)),.int .i64 8] M).bind fun r_1=>K #[.pointer x0,.int .u32 x1,g2,g3,g4,g5,g6,g7,g8,g9,gA,gB,gC,gD,gE,gF,gG,gH,gI,gJ,gK,gL,gM,.pointer x0,.int .u32 x1,.int .u64 (IntKind.u64.wrap (x1)),r_1.1] r_1.2:=by kernel_rfl
theorem k37_34:P37 [1,1,1,1,1]=.seq (P37 [1,1,1,1,1,0]) (P37 [1,1,1,1,1,1]):=by kernel_rfl
theorem k37_35:P37 [1,1,1,1,1,0]=.region 9 (O37 [1,1,1,1,1,0]) false:=by kernel_rfl
theorem r37_9 {M:Mem} {call:CallM} {K:Array Value→Mem→R} :
 opsK Try.prog (fun _=>call) (O37 [1,1,1,1,1,0]) (O37 [1,1,1,1,1,0]).toList 0 #[g0,g1,g2,g3,g4,g5,g6,g7,g8,g9,gA,gB,gC,gD,gE,gF,gG,gH,gI,gJ,gK,gL,gM,gN,gO,gP,gQ] M K=K #[g0,g1,g2,g3,.int .i64 0,g5,g6,g7,g8,g9,gA,gB,gC,gD,gE,gF,gG,gH,gI,gJ,gK,gL,gM,gN,gO,gP,gQ] M:=by kernel_rfl
theorem k37_36:P37 [1,1,1,1,1,1]=.ret:=by kernel_rfl
noncomputable def S37_1:List Item:=[.code (P37 [1,1,1,0,0,0]),.inLoop (P37 [1,1,1,0,0,0]),.inBlock 0,.code (P37 [1,1,1,1])]
def A37_1 (x0:Option Addr) (x1:Int) (M:Mem) (Q:Value→Mem→Prop):Prop:=∀ (g2 g3 g4 g5 g6 g7 g8 g9 gA gB gC gD gE gF gG gH gI gJ gK gL gM gN gO gP gQ:Value),Rn Try.prog Try.f37 S37_1 #[.pointer x0,.int .u32 x1,g2,g3,g4,g5,g6,g7,g8,g9,gA,gB,gC,gD,gE,gF,gG,gH,gI,gJ,gK,gL,gM,gN,gO,gP,gQ] M Q
theorem w37_0 {x0:Option Addr} {x1:Int} {M:Mem} {Q:Value→Mem→Prop} (H :
 Cn Try.prog 51 #[.pointer x0] M fun v1' N1'=>
 ∃b2',asB v1'=some b2'∧
 (((!b2')=true→
 Q (.int .i64 1) N1')∧
 ((!b2')=false→
 ∃a3',x0=some a3'∧
 ∃x4',N1'.intAt .i64 a3'.block (a3'.off+1)=some x4'∧
 ((x4'>0→
 Q (.int .i64 2) N1')∧
 (¬(x4'>0)→
 A37_1 x0 x1 N1' Q))))):
 Cn Try.prog 37 #[.pointer x0,.int .u32 x1] M Q:=by
  refine Cn.of b37 d37 t37 ?_
  refine Rn.seq k37_0 (Rn.region k37_1 (fun call K=>r37_0) (Rch.leaf (Rn.seq k37_2 (Rn.seq k37_3 (Rn.region k37_4 (fun call K=>r37_1) (Rch.call H fun v1' N1' H=>Rch.ex H fun b2' H=>Rch.leaf ?_))))))
  refine Rn.cnd (v:=!b2') ⟨c37_5,rfl,by kernel_rfl⟩ (fun h=>?_) (fun h=>?_)
  · replace H:=H.1 (h)
    refine Rn.seq k37_6 (Rn.region k37_7 (fun call K=>r37_2) (Rch.leaf ?_))
    exact Rn.ret k37_8 e37 H
  · replace H:=H.2 (h)
    refine Rn.skip k37_10 (Rn.seq k37_11 (Rn.seq k37_12 (Rn.region k37_13 (fun call K=>r37_3) (Rch.ex H fun a3' H=>Rch.ex H fun x4' H=>Rch.leaf ?_))))
    refine Rn.cnd (v:=decide (x4'>0)) ⟨c37_14,rfl,by kernel_rfl⟩ (fun h=>?_) (fun h=>?_)
    · replace H:=H.1 (of_decide_eq_true h)
      refine Rn.seq k37_15 (Rn.region k37_16 (fun call K=>r37_4) (Rch.leaf ?_))
      exact Rn.ret k37_17 e37 H
    · replace H:=H.2 (of_decide_eq_false h)
      refine Rn.skip k37_18 (Rn.seq k37_19 (Rn.block k37_20 (Rn.loop k37_21 ?_)))
      exact H ..
theorem w37_1 {x0:Option Addr} {x1:Int} {M:Mem} {Q:Value→Mem→Prop} (H :
 ((x1>127→
 Cn Try.prog 52 #[.pointer x0,.int .u64 (IntKind.u64.wrap (IntKind.u32.wrap (((BitVec.ofInt (IntKind.bits .u32) (IntKind.u32.wrap (((BitVec.ofInt (IntKind.bits .u32) x1 &&& BitVec.ofInt (IntKind.bits .u32) 127).toNat:Int))) ||| BitVec.ofInt (IntKind.bits .u32) 128).toNat:Int)))),.int .i64 8] M fun v5' N5'=>
 A37_1 x0 (x1.fdiv (2 ^ 7)) N5' Q)∧
 (¬(x1>127)→
 Cn Try.prog 52 #[.pointer x0,.int .u64 (IntKind.u64.wrap (x1)),.int .i64 8] M fun v6' N6'=>
 Q (.int .i64 0) N6'))):
 A37_1 x0 x1 M Q:=by
  iterate 25 intro _
  refine Rn.seq k37_22 (Rn.seq k37_23 (Rn.region k37_24 (fun call K=>r37_5) (Rch.leaf ?_)))
  refine Rn.cnd (v:=decide (x1>127)) ⟨c37_25,rfl,by kernel_rfl⟩ (fun h=>?_) (fun h=>?_)
  · replace H:=H.1 (of_decide_eq_true h)
    refine Rn.skip k37_26 (Rn.seq k37_27 (Rn.block k37_28 (Rn.region k37_29 (fun call K=>r37_7) (Rch.call H fun v5' N5' H=>Rch.leaf (Rn.blk (Rn.region k37_30 (fun call K=>r37_6) (Rch.leaf (Rn.lp ?_))))))))
    exact H ..
  · replace H:=H.2 (of_decide_eq_false h)
    refine Rn.exit k37_31 rfl (Rn.seq k37_32 (Rn.region k37_33 (fun call K=>r37_8) (Rch.call H fun v6' N6' H=>Rch.leaf (Rn.seq k37_34 (Rn.region k37_35 (fun call K=>r37_9) (Rch.leaf ?_))))))
    exact Rn.ret k37_36 e37 H
noncomputable abbrev P38 (p:List Nat):Code:=subC (codeOf Try.f38) p
noncomputable abbrev O38 (p:List Nat):Array Oper:=opsOf (subC (codeOf Try.f38) p)
theorem b38:Try.prog.funcs[38]?=some Try.f38∧(Orc.tab Try.prog).lookup 38=none:=⟨by kernel_rfl,by kernel_rfl⟩
theorem d38:Try.f38.body=some (P38 []):=by kernel_rfl
theorem t38 {x0:Option Addr}:#[.pointer x0] ++ Array.replicate (Try.f38.ntmps-(#[.pointer x0]:Array Value).size) undef=#[.pointer x0,undef,undef,undef,undef,undef,undef,undef,undef,undef,undef]:=by kernel_rfl
theorem k38_0:P38 []=.seq (P38 [0]) (P38 [1]):=by kernel_rfl
theorem k38_1:P38 [0]=.region 0 (O38 [0]) false:=by kernel_rfl
theorem r38_0 {M:Mem} {call:CallM} {K:Array Value→Mem→R} :
 opsK Try.prog (fun _=>call) (O38 [0]) (O38 [0]).toList 0 #[g0,g1,g2,g3,g4,g5,g6,g7,g8,g9,gA] M K=K #[g0,g1,.slice none 0 0,g3,g4,g5,g6,g7,g8,g9,gA] M:=by kernel_rfl
theorem k38_2:P38 [1]=.seq (P38 [1,0]) (P38 [1,1]):=by kernel_rfl
theorem k38_3:P38 [1,0]=.seq (P38 [1,0,0]) (P38 [1,0,1]):=by kernel_rfl
theorem k38_4:P38 [1,0,0]=.region 1 (O38 [1,0,0]) false:=by kernel_rfl
theorem r38_1 {x0:Option Addr} {M:Mem} {call:CallM} {K:Array Value→Mem→R} :
 opsK Try.prog (fun _=>call) (O38 [1,0,0]) (O38 [1,0,0]).toList 0 #[.pointer x0,g1,g2,g3,g4,g5,g6,g7,g8,g9,gA] M K=(call 51 #[.pointer x0] M).bind fun r_1=>(asB r_1.1).bind fun b_2=>K #[.pointer x0,g1,g2,.pointer x0,.bool b_2,.bool (!b_2),g6,g7,g8,g9,gA] r_1.2:=by kernel_rfl
theorem c38_5:P38 [1,0,1]=.cond (.tmp 5) (P38 [1,0,1,0]) (P38 [1,0,1,1]):=by kernel_rfl
theorem k38_6:P38 [1,0,1,0]=.seq (P38 [1,0,1,0,0]) (P38 [1,0,1,0,1]):=by kernel_rfl
theorem k38_7:P38 [1,0,1,0,0]=.region 2 (O38 [1,0,1,0,0]) false:=by kernel_rfl
theorem r38_2 {M:Mem} {call:CallM} {K:Array Value→Mem→R} :
 opsK Try.prog (fun _=>call) (O38 [1,0,1,0,0]) (O38 [1,0,1,0,0]).toList 0 #[g0,g1,g2,g3,g4,g5,g6,g7,g8,g9,gA] M K=K #[g0,g1,.slice none 0 0,g3,g4,g5,g6,g7,g8,g9,gA] M:=by kernel_rfl
theorem k38_8:P38 [1,0,1,0,1]=.ret:=by kernel_rfl
theorem e38 {M:Mem}:finish Try.prog Try.f38 #[g0,g1,g2,g3,g4,g5,g6,g7,g8,g9,gA] M=some (g2,M):=by kernel_rfl
theorem k38_10:P38 [1,0,1,1]=.skip:=by kernel_rfl
theorem k38_11:P38 [1,1]=.seq (P38 [1,1,0]) (P38 [1,1,1]):=by kernel_rfl
theorem k38_12:P38 [1,1,0]=.region 3 (O38 [1,1,0]) false:=by kernel_rfl
theorem r38_3 {x0:Option Addr} {M:Mem} {call:CallM} {K:Array Value→Mem→R} :
 opsK Try.prog (fun _=>call) (O38 [1,1,0]) (O38 [1,1,0]).toList 0 #[.pointer x0,g1,g2,g3,g4,g5,g6,g7,g8,g9,gA] M K=(x0).bind fun a_1=>(M.slAt a_1.block a_1.off).bind fun s_2=>(call 46 #[.slice s_2.1 (s_2.2.1) (s_2.2.2)] M).bind fun r_3=>(asS r_3.1).bind fun s_4=>K #[.pointer x0,g1,.slice s_4.1 (s_4.2.1) (s_4.2.2),g3,g4,g5,.pointer x0,.pointer (some a_1),.pointer (some ⟨a_1.block,a_1.off,none⟩),.slice s_2.1 (s_2.2.1) (s_2.2.2),.slice s_4.1 (s_4.2.1) (s_4.2.2)] r_3.2:=by kernel_rfl
theorem k38_13:P38 [1,1,1]=.ret:=by kernel_rfl
theorem w38_0 {x0:Option Addr} {M:Mem} {Q:Value→Mem→Prop} (H :
 Cn Try.prog 51 #[.pointer x0] M fun v1' N1'=>
 ∃b2',asB v1'=some b2'∧
 (((!b2')=true→
 Q (.slice none 0 0) N1')∧
 ((!b2')=false→
 ∃a3',x0=some a3'∧
 ∃s4',N1'.slAt a3'.block a3'.off=some s4'∧
 Cn Try.prog 46 #[.slice s4'.1 (s4'.2.1) (s4'.2.2)] N1' fun v5' N5'=>
 ∃s6',asS v5'=some s6'∧
 Q (.slice s6'.1 (s6'.2.1) (s6'.2.2)) N5'))):
 Cn Try.prog 38 #[.pointer x0] M Q:=by
  refine Cn.of b38 d38 t38 ?_
  refine Rn.seq k38_0 (Rn.region k38_1 (fun call K=>r38_0) (Rch.leaf (Rn.seq k38_2 (Rn.seq k38_3 (Rn.region k38_4 (fun call K=>r38_1) (Rch.call H fun v1' N1' H=>Rch.ex H fun b2' H=>Rch.leaf ?_))))))
  refine Rn.cnd (v:=!b2') ⟨c38_5,rfl,by kernel_rfl⟩ (fun h=>?_) (fun h=>?_)
  · replace H:=H.1 (h)
    refine Rn.seq k38_6 (Rn.region k38_7 (fun call K=>r38_2) (Rch.leaf ?_))
    exact Rn.ret k38_8 e38 H
  · replace H:=H.2 (h)
    refine Rn.skip k38_10 (Rn.seq k38_11 (Rn.region k38_12 (fun call K=>r38_3) (Rch.ex H fun a3' H=>Rch.ex H fun s4' H=>Rch.call H fun v5' N5' H=>Rch.ex H fun s6' H=>Rch.leaf ?_)))
    exact Rn.ret k38_13 e38 H
noncomputable abbrev P39 (p:List Nat):Code:=subC (codeOf Try.f39) p
noncomputable abbrev O39 (p:List Nat):Array Oper:=opsOf (subC (codeOf Try.f39) p)
theorem b39:Try.prog.funcs[39]?=some Try.f39∧(Orc.tab Try.prog).lookup 39=none:=⟨by kernel_rfl,by kernel_rfl⟩
theorem d39:Try.f39.body=some (P39 []):=by kernel_rfl
theorem t39:#[] ++ Array.replicate (Try.f39.ntmps-(#[]:Array Value).size) undef=#[undef,undef,undef]:=by kernel_rfl
theorem k39_0:P39 []=.seq (P39 [0]) (P39 [1]):=by kernel_rfl
theorem k39_1:P39 [0]=.region 0 (O39 [0]) false:=by kernel_rfl
theorem r39_0 {M:Mem} {call:CallM} {K:Array Value→Mem→R} :
 opsK Try.prog (fun _=>call) (O39 [0]) (O39 [0]).toList 0 #[g0,g1,g2] M K=K #[.pointer none,g1,g2] M:=by kernel_rfl
theorem k39_2:P39 [1]=.seq (P39 [1,0]) (P39 [1,1]):=by kernel_rfl
theorem k39_3:P39 [1,0]=.region 1 (O39 [1,0]) false:=by kernel_rfl
theorem r39_1 {M:Mem} {call:CallM} {K:Array Value→Mem→R} :
 opsK Try.prog (fun _=>call) (O39 [1,0]) (O39 [1,0]).toList 0 #[g0,g1,g2] M K=K #[.pointer (some ⟨2*M.nb.size,0,none⟩),.agg #[.slice none 0 0],.pointer (some ⟨2*M.nb.size,0,none⟩)] (M.new (.cells #[.slice none 0 0] 86)):=by kernel_rfl
theorem k39_4:P39 [1,1]=.ret:=by kernel_rfl
theorem e39 {M:Mem}:finish Try.prog Try.f39 #[g0,g1,g2] M=some (g0,M):=by kernel_rfl
theorem w39_0 {M:Mem} {Q:Value→Mem→Prop} (H :
 Q (.pointer (some ⟨2*M.nb.size,0,none⟩)) (M.new (.cells #[.slice none 0 0] 86))):
 Cn Try.prog 39 #[] M Q:=by
  refine Cn.of b39 d39 t39 ?_
  refine Rn.seq k39_0 (Rn.region k39_1 (fun call K=>r39_0) (Rch.leaf (Rn.seq k39_2 (Rn.region k39_3 (fun call K=>r39_1) (Rch.leaf ?_)))))
  exact Rn.ret k39_4 e39 H
noncomputable abbrev P40 (p:List Nat):Code:=subC (codeOf Try.f40) p
noncomputable abbrev O40 (p:List Nat):Array Oper:=opsOf (subC (codeOf Try.f40) p)
theorem b40:Try.prog.funcs[40]?=some Try.f40∧(Orc.tab Try.prog).lookup 40=none:=⟨by kernel_rfl,by kernel_rfl⟩
theorem d40:Try.f40.body=some (P40 []):=by kernel_rfl
theorem t40 {x0:Option Addr} {x1:Int}:#[.pointer x0,.int .u32 x1] ++ Array.replicate (Try.f40.ntmps-(#[.pointer x0,.int .u32 x1]:Array Value).size) undef=#[.pointer x0,.int .u32 x1,undef,undef,undef,undef,undef,undef,undef,undef,undef,undef,undef,undef,undef,undef,undef,undef,undef,undef,undef,undef,undef,undef,undef,undef]:=by kernel_rfl
theorem k40_0:P40 []=.seq (P40 [0]) (P40 [1]):=by kernel_rfl
theorem k40_1:P40 [0]=.region 0 (O40 [0]) false:=by kernel_rfl
theorem r40_0 {M:Mem} {call:CallM} {K:Array Value→Mem→R} :
 opsK Try.prog (fun _=>call) (O40 [0]) (O40 [0]).toList 0 #[g0,g1,g2,g3,g4,g5,g6,g7,g8,g9,gA,gB,gC,gD,gE,gF,gG,gH,gI,gJ,gK,gL,gM,gN,gO,gP] M K=K #[g0,g1,g2,g3,.int .i64 0,g5,g6,g7,g8,g9,gA,gB,gC,gD,gE,gF,gG,gH,gI,gJ,gK,gL,gM,gN,gO,gP] M:=by kernel_rfl
theorem k40_2:P40 [1]=.seq (P40 [1,0]) (P40 [1,1]):=by kernel_rfl
theorem k40_3:P40 [1,0]=.seq (P40 [1,0,0]) (P40 [1,0,1]):=by kernel_rfl
theorem k40_4:P40 [1,0,0]=.region 1 (O40 [1,0,0]) false:=by kernel_rfl
theorem r40_1 {x0:Option Addr} {M:Mem} {call:CallM} {K:Array Value→Mem→R} :
 opsK Try.prog (fun _=>call) (O40 [1,0,0]) (O40 [1,0,0]).toList 0 #[.pointer x0,g1,g2,g3,g4,g5,g6,g7,g8,g9,gA,gB,gC,gD,gE,gF,gG,gH,gI,gJ,gK,gL,gM,gN,gO,gP] M K=(x0).bind fun a_1=>(M.slAt a_1.block a_1.off).bind fun s_2=>K #[.pointer x0,g1,g2,g3,g4,.pointer x0,.pointer (some a_1),.pointer (some ⟨a_1.block,a_1.off,none⟩),.slice s_2.1 (s_2.2.1) (s_2.2.2),.int .i64 ((s_2.2.1:Int)),.int .i64 (((s_2.2.1:Int)).tmod 8),.bool ((((s_2.2.1:Int)).tmod 8) != 0),gC,gD,gE,gF,gG,gH,gI,gJ,gK,gL,gM,gN,gO,gP] M:=by kernel_rfl
theorem c40_5:P40 [1,0,1]=.cond (.tmp 11) (P40 [1,0,1,0]) (P40 [1,0,1,1]):=by kernel_rfl
theorem k40_6:P40 [1,0,1,0]=.seq (P40 [1,0,1,0,0]) (P40 [1,0,1,0,1]):=by kernel_rfl
theorem k40_7:P40 [1,0,1,0,0]=.region 2 (O40 [1,0,1,0,0]) false:=by kernel_rfl
theorem r40_2 {M:Mem} {call:CallM} {K:Array Value→Mem→R} :
 opsK Try.prog (fun _=>call) (O40 [1,0,1,0,0]) (O40 [1,0,1,0,0]).toList 0 #[g0,g1,g2,g3,g4,g5,g6,g7,g8,g9,gA,gB,gC,gD,gE,gF,gG,gH,gI,gJ,gK,gL,gM,gN,gO,gP] M K=K #[g0,g1,g2,g3,.int .i64 2,g5,g6,g7,g8,g9,gA,gB,gC,gD,gE,gF,gG,gH,gI,gJ,gK,gL,gM,gN,gO,gP] M:=by kernel_rfl
theorem k40_8:P40 [1,0,1,0,1]=.ret:=by kernel_rfl
theorem e40 {M:Mem}:finish Try.prog Try.f40 #[g0,g1,g2,g3,g4,g5,g6,g7,g8,g9,gA,gB,gC,gD,gE,gF,gG,gH,gI,gJ,gK,gL,gM,gN,gO,gP] M=some (g4,M):=by kernel_rfl
theorem k40_10:P40 [1,0,1,1]=.skip:=by kernel_rfl
theorem k40_11:P40 [1,1]=.seq (P40 [1,1,0]) (P40 [1,1,1]):=by kernel_rfl
theorem k40_12:P40 [1,1,0]=.block 0 (P40 [1,1,0,0]):=by kernel_rfl
theorem k40_13:P40 [1,1,0,0]=.loop (P40 [1,1,0,0,0]):=by kernel_rfl
theorem k40_14:P40 [1,1,0,0,0]=.seq (P40 [1,1,0,0,0,0]) (P40 [1,1,0,0,0,1]):=by kernel_rfl
theorem k40_15:P40 [1,1,0,0,0,0]=.seq (P40 [1,1,0,0,0,0,0]) (P40 [1,1,0,0,0,0,1]):=by kernel_rfl
theorem k40_16:P40 [1,1,0,0,0,0,0]=.region 3 (O40 [1,1,0,0,0,0,0]) false:=by kernel_rfl
theorem r40_3 {x1:Int} {M:Mem} {call:CallM} {K:Array Value→Mem→R} :
 opsK Try.prog (fun _=>call) (O40 [1,1,0,0,0,0,0]) (O40 [1,1,0,0,0,0,0]).toList 0 #[g0,.int .u32 x1,g2,g3,g4,g5,g6,g7,g8,g9,gA,gB,gC,gD,gE,gF,gG,gH,gI,gJ,gK,gL,gM,gN,gO,gP] M K=K #[g0,.int .u32 x1,g2,g3,g4,g5,g6,g7,g8,g9,gA,gB,.int .u32 x1,.bool (decide (x1≥128)),gE,gF,gG,gH,gI,gJ,gK,gL,gM,gN,gO,gP] M:=by kernel_rfl
theorem c40_17:P40 [1,1,0,0,0,0,1]=.cond (.tmp 13) (P40 [1,1,0,0,0,0,1,0]) (P40 [1,1,0,0,0,0,1,1]):=by kernel_rfl
theorem k40_18:P40 [1,1,0,0,0,0,1,0]=.skip:=by kernel_rfl
theorem k40_19:P40 [1,1,0,0,0,1]=.block 1 (P40 [1,1,0,0,0,1,0]):=by kernel_rfl
theorem k40_20:P40 [1,1,0,0,0,1,0]=.seq (P40 [1,1,0,0,0,1,0,0]) (P40 [1,1,0,0,0,1,0,1]):=by kernel_rfl
theorem k40_21:P40 [1,1,0,0,0,1,0,0]=.region 4 (O40 [1,1,0,0,0,1,0,0]) false:=by kernel_rfl
theorem r40_4 {x0:Option Addr} {x1:Int} {M:Mem} {call:CallM} {K:Array Value→Mem→R} :
 opsK Try.prog (fun _=>call) (O40 [1,1,0,0,0,1,0,0]) (O40 [1,1,0,0,0,1,0,0]).toList 0 #[.pointer x0,.int .u32 x1,g2,g3,g4,g5,g6,g7,g8,g9,gA,gB,gC,gD,gE,gF,gG,gH,gI,gJ,gK,gL,gM,gN,gO,gP] M K=(call 53 #[.pointer x0,.int .u64 (IntKind.u64.wrap (IntKind.u32.wrap (128+(x1.tmod 128)))),.int .i64 8] M).bind fun r_1=>K #[.pointer x0,.int .u32 x1,g2,g3,g4,g5,g6,g7,g8,g9,gA,gB,gC,gD,.pointer x0,.int .u32 x1,.int .u32 (x1.tmod 128),.int .u32 (IntKind.u32.wrap (128+(x1.tmod 128))),.int .u64 (IntKind.u64.wrap (IntKind.u32.wrap (128+(x1.tmod 128)))),r_1.1,gK,gL,gM,gN,gO,gP] r_1.2:=by kernel_rfl
theorem k40_22:P40 [1,1,0,0,0,1,0,1]=.region 5 (O40 [1,1,0,0,0,1,0,1]) false:=by kernel_rfl
theorem r40_5 {x1:Int} {M:Mem} {call:CallM} {K:Array Value→Mem→R} :
 opsK Try.prog (fun _=>call) (O40 [1,1,0,0,0,1,0,1]) (O40 [1,1,0,0,0,1,0,1]).toList 0 #[g0,.int .u32 x1,g2,g3,g4,g5,g6,g7,g8,g9,gA,gB,gC,gD,gE,gF,gG,gH,gI,gJ,gK,gL,gM,gN,gO,gP] M K=K #[g0,.int .u32 (IntKind.u32.wrap (x1.tdiv 128)),g2,g3,g4,g5,g6,g7,g8,g9,gA,gB,gC,gD,gE,gF,gG,gH,gI,gJ,.int .u32 x1,.int .u32 (IntKind.u32.wrap (x1.tdiv 128)),gM,gN,gO,gP] M:=by kernel_rfl
theorem k40_23:P40 [1,1,0,0,0,0,1,1]=.exit 0:=by kernel_rfl
theorem k40_24:P40 [1,1,1]=.seq (P40 [1,1,1,0]) (P40 [1,1,1,1]):=by kernel_rfl
theorem k40_25:P40 [1,1,1,0]=.region 6 (O40 [1,1,1,0]) false:=by kernel_rfl
theorem r40_6 {x0:Option Addr} {x1:Int} {M:Mem} {call:CallM} {K:Array Value→Mem→R} :
 opsK Try.prog (fun _=>call) (O40 [1,1,1,0]) (O40 [1,1,1,0]).toList 0 #[.pointer x0,.int .u32 x1,g2,g3,g4,g5,g6,g7,g8,g9,gA,gB,gC,gD,gE,gF,gG,gH,gI,gJ,gK,gL,gM,gN,gO,gP] M K=(call 53 #[.pointer x0,.int .u64 (IntKind.u64.wrap (x1)),.int .i64 8] M).bind fun r_1=>K #[.pointer x0,.int .u32 x1,g2,g3,g4,g5,g6,g7,g8,g9,gA,gB,gC,gD,gE,gF,gG,gH,gI,gJ,gK,gL,.pointer x0,.int .u32 x1,.int .u64 (IntKind.u64.wrap (x1)),r_1.1] r_1.2:=by kernel_rfl
theorem k40_26:P40 [1,1,1,1]=.seq (P40 [1,1,1,1,0]) (P40 [1,1,1,1,1]):=by kernel_rfl
theorem k40_27:P40 [1,1,1,1,0]=.region 7 (O40 [1,1,1,1,0]) false:=by kernel_rfl
theorem r40_7 {M:Mem} {call:CallM} {K:Array Value→Mem→R} :
 opsK Try.prog (fun _=>call) (O40 [1,1,1,1,0]) (O40 [1,1,1,1,0]).toList 0 #[g0,g1,g2,g3,g4,g5,g6,g7,g8,g9,gA,gB,gC,gD,gE,gF,gG,gH,gI,gJ,gK,gL,gM,gN,gO,gP] M K=K #[g0,g1,g2,g3,.int .i64 0,g5,g6,g7,g8,g9,gA,gB,gC,gD,gE,gF,gG,gH,gI,gJ,gK,gL,gM,gN,gO,gP] M:=by kernel_rfl
theorem k40_28:P40 [1,1,1,1,1]=.ret:=by kernel_rfl
noncomputable def S40_1:List Item:=[.code (P40 [1,1,0,0,0]),.inLoop (P40 [1,1,0,0,0]),.inBlock 0,.code (P40 [1,1,1])]
def A40_1 (x0:Option Addr) (x1:Int) (M:Mem) (Q:Value→Mem→Prop):Prop:=∀ (g2 g3 g4 g5 g6 g7 g8 g9 gA gB gC gD gE gF gG gH gI gJ gK gL gM gN gO gP:Value),Rn Try.prog Try.f40 S40_1 #[.pointer x0,.int .u32 x1,g2,g3,g4,g5,g6,g7,g8,g9,gA,gB,gC,gD,gE,gF,gG,gH,gI,gJ,gK,gL,gM,gN,gO,gP] M Q
theorem w40_0 {x0:Option Addr} {x1:Int} {M:Mem} {Q:Value→Mem→Prop} (H :
 ∃a1',x0=some a1'∧
 ∃s2',M.slAt a1'.block a1'.off=some s2'∧
 (((((s2'.2.1:Int)).tmod 8)≠0→
 Q (.int .i64 2) M)∧
 ((((s2'.2.1:Int)).tmod 8)=0→
 A40_1 x0 x1 M Q))):
 Cn Try.prog 40 #[.pointer x0,.int .u32 x1] M Q:=by
  refine Cn.of b40 d40 t40 ?_
  refine Rn.seq k40_0 (Rn.region k40_1 (fun call K=>r40_0) (Rch.leaf (Rn.seq k40_2 (Rn.seq k40_3 (Rn.region k40_4 (fun call K=>r40_1) (Rch.ex H fun a1' H=>Rch.ex H fun s2' H=>Rch.leaf ?_))))))
  refine Rn.cnd (v:=(((s2'.2.1:Int)).tmod 8) != 0) ⟨c40_5,rfl,by kernel_rfl⟩ (fun h=>?_) (fun h=>?_)
  · replace H:=H.1 (ne_of_bneT h)
    refine Rn.seq k40_6 (Rn.region k40_7 (fun call K=>r40_2) (Rch.leaf ?_))
    exact Rn.ret k40_8 e40 H
  · replace H:=H.2 (eq_of_bneF h)
    refine Rn.skip k40_10 (Rn.seq k40_11 (Rn.block k40_12 (Rn.loop k40_13 ?_)))
    exact H ..
theorem w40_1 {x0:Option Addr} {x1:Int} {M:Mem} {Q:Value→Mem→Prop} (H :
 ((x1≥128→
 Cn Try.prog 53 #[.pointer x0,.int .u64 (IntKind.u64.wrap (IntKind.u32.wrap (128+(x1.tmod 128)))),.int .i64 8] M fun v3' N3'=>
 A40_1 x0 (IntKind.u32.wrap (x1.tdiv 128)) N3' Q)∧
 (¬(x1≥128)→
 Cn Try.prog 53 #[.pointer x0,.int .u64 (IntKind.u64.wrap (x1)),.int .i64 8] M fun v4' N4'=>
 Q (.int .i64 0) N4'))):
 A40_1 x0 x1 M Q:=by
  iterate 24 intro _
  refine Rn.seq k40_14 (Rn.seq k40_15 (Rn.region k40_16 (fun call K=>r40_3) (Rch.leaf ?_)))
  refine Rn.cnd (v:=decide (x1≥128)) ⟨c40_17,rfl,by kernel_rfl⟩ (fun h=>?_) (fun h=>?_)
  · replace H:=H.1 (of_decide_eq_true h)
    refine Rn.skip k40_18 (Rn.block k40_19 (Rn.seq k40_20 (Rn.region k40_21 (fun call K=>r40_4) (Rch.call H fun v3' N3' H=>Rch.leaf (Rn.region k40_22 (fun call K=>r40_5) (Rch.leaf (Rn.blk (Rn.lp ?_))))))))
    exact H ..
  · replace H:=H.2 (of_decide_eq_false h)
    refine Rn.exit k40_23 rfl (Rn.seq k40_24 (Rn.region k40_25 (fun call K=>r40_6) (Rch.call H fun v4' N4' H=>Rch.leaf (Rn.seq k40_26 (Rn.region k40_27 (fun call K=>r40_7) (Rch.leaf ?_))))))
    exact Rn.ret k40_28 e40 H
noncomputable abbrev P41 (p:List Nat):Code:=subC (codeOf Try.f41) p
noncomputable abbrev O41 (p:List Nat):Array Oper:=opsOf (subC (codeOf Try.f41) p)
theorem b41:Try.prog.funcs[41]?=some Try.f41∧(Orc.tab Try.prog).lookup 41=none:=⟨by kernel_rfl,by kernel_rfl⟩
theorem d41:Try.f41.body=some (P41 []):=by kernel_rfl
theorem t41 {x0:Option Addr}:#[.pointer x0] ++ Array.replicate (Try.f41.ntmps-(#[.pointer x0]:Array Value).size) undef=#[.pointer x0,undef,undef,undef,undef,undef,undef,undef]:=by kernel_rfl
theorem k41_0:P41 []=.seq (P41 [0]) (P41 [1]):=by kernel_rfl
theorem k41_1:P41 [0]=.region 0 (O41 [0]) false:=by kernel_rfl
theorem r41_0 {M:Mem} {call:CallM} {K:Array Value→Mem→R} :
 opsK Try.prog (fun _=>call) (O41 [0]) (O41 [0]).toList 0 #[g0,g1,g2,g3,g4,g5,g6,g7] M K=K #[g0,g1,.slice none 0 0,g3,g4,g5,g6,g7] M:=by kernel_rfl
theorem k41_2:P41 [1]=.seq (P41 [1,0]) (P41 [1,1]):=by kernel_rfl
theorem k41_3:P41 [1,0]=.region 1 (O41 [1,0]) false:=by kernel_rfl
theorem r41_1 {x0:Option Addr} {M:Mem} {call:CallM} {K:Array Value→Mem→R} :
 opsK Try.prog (fun _=>call) (O41 [1,0]) (O41 [1,0]).toList 0 #[.pointer x0,g1,g2,g3,g4,g5,g6,g7] M K=(x0).bind fun a_1=>(M.slAt a_1.block a_1.off).bind fun s_2=>(call 54 #[.slice s_2.1 (s_2.2.1) (s_2.2.2)] M).bind fun r_3=>(asS r_3.1).bind fun s_4=>K #[.pointer x0,g1,.slice s_4.1 (s_4.2.1) (s_4.2.2),.pointer x0,.pointer (some a_1),.pointer (some ⟨a_1.block,a_1.off,none⟩),.slice s_2.1 (s_2.2.1) (s_2.2.2),.slice s_4.1 (s_4.2.1) (s_4.2.2)] r_3.2:=by kernel_rfl
theorem k41_4:P41 [1,1]=.ret:=by kernel_rfl
theorem e41 {M:Mem}:finish Try.prog Try.f41 #[g0,g1,g2,g3,g4,g5,g6,g7] M=some (g2,M):=by kernel_rfl
theorem w41_0 {x0:Option Addr} {M:Mem} {Q:Value→Mem→Prop} (H :
 ∃a1',x0=some a1'∧
 ∃s2',M.slAt a1'.block a1'.off=some s2'∧
 Cn Try.prog 54 #[.slice s2'.1 (s2'.2.1) (s2'.2.2)] M fun v3' N3'=>
 ∃s4',asS v3'=some s4'∧
 Q (.slice s4'.1 (s4'.2.1) (s4'.2.2)) N3'):
 Cn Try.prog 41 #[.pointer x0] M Q:=by
  refine Cn.of b41 d41 t41 ?_
  refine Rn.seq k41_0 (Rn.region k41_1 (fun call K=>r41_0) (Rch.leaf (Rn.seq k41_2 (Rn.region k41_3 (fun call K=>r41_1) (Rch.ex H fun a1' H=>Rch.ex H fun s2' H=>Rch.call H fun v3' N3' H=>Rch.ex H fun s4' H=>Rch.leaf ?_)))))
  exact Rn.ret k41_4 e41 H
end Go.Zu
