/- The functions' walks: for each function and each loop a rule of what it comes to. Printed by zw2.py. -/
import Derived.Test.YtgepgbblmodagaaProg
import Derived.Test.YtgepgbblmodagaaZkA
import Derived.Test.YtgepgbblmodagaaZqT
set_option linter.unusedVariables false
set_option linter.unusedSimpArgs false
set_option maxRecDepth 100000
namespace Go.Zt
open Go Go.Sim Go.Proofs
def str0:ByteArray:=⟨#[0,1,2,2,3,3,3,3,4,4,4,4,4,4,4,4,5,5,5,5,5,5,5,5,5,5,5,5,5,5,5,5,6,6,6,6,6,6,6,6,6,6,6,6,6,6,6,6,6,6,6,6,6,6,6,6,6,6,6,6,6,6,6,6,7,7,7,7,7,7,7,7,7,7,7,7,7,7,7,7,7,7,7,7,7,7,7,7,7,7,7,7,7,7,7,7,7,7,7,7,7,7,7,7,7,7,7,7,7,7,7,7,7,7,7,7,7,7,7,7,7,7,7,7,7,7,7,7,8,8,8,8,8,8,8,8,8,8,8,8,8,8,8,8,8,8,8,8,8,8,8,8,8,8,8,8,8,8,8,8,8,8,8,8,8,8,8,8,8,8,8,8,8,8,8,8,8,8,8,8,8,8,8,8,8,8,8,8,8,8,8,8,8,8,8,8,8,8,8,8,8,8,8,8,8,8,8,8,8,8,8,8,8,8,8,8,8,8,8,8,8,8,8,8,8,8,8,8,8,8,8,8,8,8,8,8,8,8,8,8,8,8,8,8,8,8,8,8,8,8,8,8,8,8,8,8]⟩
def K80:List (List It × List Nat):=[]
def Z80:List (List Nat × List Nat):=[]
theorem b80:Try.prog.funcs[80]?=some Try.f80∧(Orc.tab Try.prog).lookup 80=none∧Try.f80.body=some (codeOf Try.f80):=⟨by kernel_rfl,by kernel_rfl,by kernel_rfl⟩
theorem w80_0 {x0:Option Addr} {x1:Int} {M:Mem} {Q:Value→Mem→Prop} (H:
 ∃ a1',x0=some a1'∧
 ∃ s2',M.slAt a1'.block a1'.off=some s2'∧
 ∃ a3',idxA s2'.1 (s2'.2.1) 1 (IntKind.i64.wrap (x1.tdiv 8))=some a3'∧
 ∃ x4',M.intAt .u8 a3'.block a3'.off=some x4'∧
 ∃ v5',binV Try.prog .shr 5 3 (.int .u8 x4') (.int .i64 (IntKind.i64.wrap (7 - (x1.tmod 8))))=some v5'∧
 ∃ x6',asI .u8 v5'=some x6'∧
 Q (.int .u32 (IntKind.u32.wrap (((BitVec.ofInt (IntKind.bits .u32) (IntKind.u32.wrap (x6')) &&& BitVec.ofInt (IntKind.bits .u32) 1).toNat:Int)))) M):
 Cn Try.prog 80 #[.pointer x0,.int .i64 x1] M Q:=by
 try simp only [o2,o3] at H
 try simp only [oA,oB,oP,oS,oI,oU,oi,ob,op,os,ox,ot,oq,om] at H
 try simp only [oa,cD,cE,cN] at H
 try simp only [cB] at H
 exact
 Cn.mk (cuts:=K80) (sp:=Z80) 900 b80 rfl rfl H fun G=>by kernel_rfl
def K66:List (List It × List Nat):=[([.code [1,1,0,1,0,0],.lp [1,1,0,1,0,0],.blk 0,.code [1,1,1]],[0,1,7,9,10])]
def Z66:List (List Nat × List Nat):=[]
theorem b66:Try.prog.funcs[66]?=some Try.f66∧(Orc.tab Try.prog).lookup 66=none∧Try.f66.body=some (codeOf Try.f66):=⟨by kernel_rfl,by kernel_rfl,by kernel_rfl⟩
def A66_1 (x0:Option Addr) (x1 x7 x9 x10:Int) (M:Mem) (Q:Value→Mem→Prop):Prop:=LvP Try.prog Try.f66 [(0,.pointer x0),(1,.int .i64 x1),(7,.int .u32 x7),(9,.int .i64 x9),(10,.int .i64 x10)] [.code [1,1,0,1,0,0],.lp [1,1,0,1,0,0],.blk 0,.code [1,1,1]] M Q
theorem w66_0 {x0:Option Addr} {x1 x2:Int} {M:Mem} {Q:Value→Mem→Prop} (H:
 A66_1 x0 x1 0 x2 0 M Q):
 Cn Try.prog 66 #[.pointer x0,.int .i64 x1,.int .i64 x2] M Q:=by
 try simp only [o2,o3] at H
 try simp only [oA,oB,oP,oS,oI,oU,oi,ob,op,os,ox,ot,oq,om] at H
 try simp only [oa,cD,cE,cN] at H
 try simp only [cB] at H
 exact
 Cn.mk (cuts:=K66) (sp:=Z66) 900 b66 rfl rfl H fun G=>by kernel_rfl
theorem w66_1 {x0:Option Addr} {x1 x7 x9 x10:Int} {M:Mem} {Q:Value→Mem→Prop} (H:
 ((x10<x9→
 Cn Try.prog 80 #[.pointer x0,.int .i64 (IntKind.i64.wrap (x1+x10))] M fun v1' N1'=>
 ∃ x2',asI .u32 v1'=some x2'∧
 A66_1 x0 x1 (IntKind.u32.wrap (((BitVec.ofInt (IntKind.bits .u32) (IntKind.u32.wrap (x7*2 ^ 1)) ||| BitVec.ofInt (IntKind.bits .u32) x2').toNat:Int))) x9 (IntKind.i64.wrap (x10+1)) N1' Q)∧
 (¬ (x10<x9)→
 Q (.int .u32 x7) M))):
 A66_1 x0 x1 x7 x9 x10 M Q:=by
 try simp only [o2,o3] at H
 try simp only [oA,oB,oP,oS,oI,oU,oi,ob,op,os,ox,ot,oq,om] at H
 try simp only [oa,cD,cE,cN] at H
 try simp only [cB] at H
 exact
 LvP.mk (cuts:=K66) (sp:=Z66) 900 H fun G=>by kernel_rfl
def K64:List (List It × List Nat):=[]
def Z64:List (List Nat × List Nat):=[]
theorem b64:Try.prog.funcs[64]?=some Try.f64∧(Orc.tab Try.prog).lookup 64=none∧Try.f64.body=some (codeOf Try.f64):=⟨by kernel_rfl,by kernel_rfl,by kernel_rfl⟩
theorem w64_0 {x0:Option Addr} {M:Mem} {Q:Value→Mem→Prop} (H:
 ((x0.isSome=true→
 ∃ a1',x0=some a1'∧
 ∃ b2',M.boolAt a1'.block (a1'.off+2)=some b2'∧
 Q (.bool b2') M)∧
 (x0.isSome=false→
 Q (.bool false) M))):
 Cn Try.prog 64 #[.pointer x0] M Q:=by
 try simp only [o2,o3] at H
 try simp only [oA,oB,oP,oS,oI,oU,oi,ob,op,os,ox,ot,oq,om] at H
 try simp only [oa,cD,cE,cN] at H
 try simp only [cB] at H
 exact
 Cn.mk (cuts:=K64) (sp:=Z64) 900 b64 rfl rfl H fun G=>by kernel_rfl
def K65:List (List It × List Nat):=[]
def Z65:List (List Nat × List Nat):=[]
theorem b65:Try.prog.funcs[65]?=some Try.f65∧(Orc.tab Try.prog).lookup 65=none∧Try.f65.body=some (codeOf Try.f65):=⟨by kernel_rfl,by kernel_rfl,by kernel_rfl⟩
theorem w65_0 {x0:Option Addr} {M:Mem} {Q:Value→Mem→Prop} (H:
 ∃ a1',x0=some a1'∧
 ∃ s2',M.slAt a1'.block a1'.off=some s2'∧
 ∃ a3',x0=some a3'∧
 ∃ x4',M.intAt .i64 a3'.block (a3'.off+1)=some x4'∧
 Q (.int .i64 (IntKind.i64.wrap ((IntKind.i64.wrap (8*((s2'.2.1:Int)))) - x4'))) M):
 Cn Try.prog 65 #[.pointer x0] M Q:=by
 try simp only [o2,o3] at H
 try simp only [oA,oB,oP,oS,oI,oU,oi,ob,op,os,ox,ot,oq,om] at H
 try simp only [oa,cD,cE,cN] at H
 try simp only [cB] at H
 exact
 Cn.mk (cuts:=K65) (sp:=Z65) 900 b65 rfl rfl H fun G=>by kernel_rfl
def K61:List (List It × List Nat):=[]
def Z61:List (List Nat × List Nat):=[]
theorem b61:Try.prog.funcs[61]?=some Try.f61∧(Orc.tab Try.prog).lookup 61=none∧Try.f61.body=some (codeOf Try.f61):=⟨by kernel_rfl,by kernel_rfl,by kernel_rfl⟩
theorem w61_0 {Ax0:Option Addr} {lx0 cx0:Nat} {M:Mem} {Q:Value→Mem→Prop} (H:
 ((Ax0.isNone=true→
 Q (.slice none 0 0) M)∧
 (Ax0.isNone=false→
 ∃ r1',appendP Try.prog #[24,24] (.slice (some ⟨2*M.nb.size,0,none⟩) 0 0) (.slice Ax0 lx0 cx0) (M.new (.cells #[] 5))=some r1'∧
 ∃ s2',asS r1'.1=some s2'∧
 Q (.slice s2'.1 (s2'.2.1) (s2'.2.2)) r1'.2))):
 Cn Try.prog 61 #[.slice Ax0 lx0 cx0] M Q:=by
 try simp only [o2,o3] at H
 try simp only [oA,oB,oP,oS,oI,oU,oi,ob,op,os,ox,ot,oq,om] at H
 try simp only [oa,cD,cE,cN] at H
 try simp only [cB] at H
 exact
 Cn.mk (cuts:=K61) (sp:=Z61) 900 b61 rfl rfl H fun G=>by kernel_rfl
def K37:List (List It × List Nat):=[]
def Z37:List (List Nat × List Nat):=[]
theorem b37:Try.prog.funcs[37]?=some Try.f37∧(Orc.tab Try.prog).lookup 37=none∧Try.f37.body=some (codeOf Try.f37):=⟨by kernel_rfl,by kernel_rfl,by kernel_rfl⟩
theorem w37_0 {x0:Option Addr} {M:Mem} {Q:Value→Mem→Prop} (H:
 Cn Try.prog 64 #[.pointer x0] M fun v1' N1'=>
 ∃ b2',asB v1'=some b2'∧
 (((!b2')=true→
 Q (.int .i64 0) N1')∧
 ((!b2')=false→
 Cn Try.prog 65 #[.pointer x0] N1' fun v3' N3'=>
 ∃ x4',asI .i64 v3'=some x4'∧
 Q (.int .i64 (x4')) N3'))):
 Cn Try.prog 37 #[.pointer x0] M Q:=by
 try simp only [o2,o3] at H
 try simp only [oA,oB,oP,oS,oI,oU,oi,ob,op,os,ox,ot,oq,om] at H
 try simp only [oa,cD,cE,cN] at H
 try simp only [cB] at H
 exact
 Cn.mk (cuts:=K37) (sp:=Z37) 900 b37 rfl rfl H fun G=>by kernel_rfl
def K33:List (List It × List Nat):=[([.code [1,0,0,1,1,1],.blk 0,.code [1,1]],[0,1,11])]
def Z33:List (List Nat × List Nat):=[]
theorem b33:Try.prog.funcs[33]?=some Try.f33∧(Orc.tab Try.prog).lookup 33=none∧Try.f33.body=some (codeOf Try.f33):=⟨by kernel_rfl,by kernel_rfl,by kernel_rfl⟩
def A33_1 (x0:Option Addr) (x1:Int) (x11:Bool) (M:Mem) (Q:Value→Mem→Prop):Prop:=LvP Try.prog Try.f33 [(0,.pointer x0),(1,.int .i64 x1),(11,.bool x11)] [.code [1,0,0,1,1,1],.blk 0,.code [1,1]] M Q
theorem w33_0 {x0:Option Addr} {x1:Int} {M:Mem} {Q:Value→Mem→Prop} (H:
 Cn Try.prog 64 #[.pointer x0] M fun v1' N1'=>
 ∃ b2',asB v1'=some b2'∧
 (((!b2')=true→
 Q (.tuple #[.int .u32 0,.int .i64 1]) N1')∧
 ((!b2')=false→
 ((x1<0→
 A33_1 x0 x1 true N1' Q)∧
 (¬ (x1<0)→
 A33_1 x0 x1 (decide (x1 > 32)) N1' Q))))):
 Cn Try.prog 33 #[.pointer x0,.int .i64 x1] M Q:=by
 try simp only [o2,o3] at H
 try simp only [oA,oB,oP,oS,oI,oU,oi,ob,op,os,ox,ot,oq,om] at H
 try simp only [oa,cD,cE,cN] at H
 try simp only [cB] at H
 exact
 Cn.mk (cuts:=K33) (sp:=Z33) 900 b33 rfl rfl H fun G=>by kernel_rfl
theorem w33_1 {x0:Option Addr} {x1:Int} {x11:Bool} {M:Mem} {Q:Value→Mem→Prop} (H:
 ((x11=true→
 Q (.tuple #[.int .u32 0,.int .i64 2]) M)∧
 (x11=false→
 Cn Try.prog 65 #[.pointer x0] M fun v3' N3'=>
 ∃ x4',asI .i64 v3'=some x4'∧
 ((x1 > x4'→
 Q (.tuple #[.int .u32 0,.int .i64 3]) N3')∧
 (¬ (x1 > x4')→
 ∃ a5',x0=some a5'∧
 ∃ x6',N3'.intAt .i64 a5'.block (a5'.off+1)=some x6'∧
 Cn Try.prog 66 #[.pointer x0,.int .i64 x6',.int .i64 x1] N3' fun v7' N7'=>
 ∃ x8',asI .u32 v7'=some x8'∧
 ∃ a9',x0=some a9'∧
 ∃ x10',N7'.intAt .i64 a9'.block (a9'.off+1)=some x10'∧
 ∃ a11',x0=some a11'∧
 ∃ M12',N7'.put a11'.block (a11'.off+1) (.int .i64 (IntKind.i64.wrap (x10'+x1)))=some M12'∧
 Q (.tuple #[.int .u32 (x8'),.int .i64 0]) M12'))))):
 A33_1 x0 x1 x11 M Q:=by
 try simp only [o2,o3] at H
 try simp only [oA,oB,oP,oS,oI,oU,oi,ob,op,os,ox,ot,oq,om] at H
 try simp only [oa,cD,cE,cN] at H
 try simp only [cB] at H
 exact
 LvP.mk (cuts:=K33) (sp:=Z33) 900 H fun G=>by kernel_rfl
def K82:List (List It × List Nat):=[([.code [1,0,0,1,1,1],.blk 0,.code [1,1]],[0,1,11])]
def Z82:List (List Nat × List Nat):=[]
theorem b82:Try.prog.funcs[82]?=some Try.f82∧(Orc.tab Try.prog).lookup 82=none∧Try.f82.body=some (codeOf Try.f82):=⟨by kernel_rfl,by kernel_rfl,by kernel_rfl⟩
def A82_1 (x0:Option Addr) (x1:Int) (x11:Bool) (M:Mem) (Q:Value→Mem→Prop):Prop:=LvP Try.prog Try.f82 [(0,.pointer x0),(1,.int .i64 x1),(11,.bool x11)] [.code [1,0,0,1,1,1],.blk 0,.code [1,1]] M Q
theorem w82_0 {x0:Option Addr} {x1:Int} {M:Mem} {Q:Value→Mem→Prop} (H:
 Cn Try.prog 64 #[.pointer x0] M fun v1' N1'=>
 ∃ b2',asB v1'=some b2'∧
 (((!b2')=true→
 Q (.tuple #[.int .i32 0,.int .i64 1]) N1')∧
 ((!b2')=false→
 ((x1<1→
 A82_1 x0 x1 true N1' Q)∧
 (¬ (x1<1)→
 A82_1 x0 x1 (decide (x1 > 31)) N1' Q))))):
 Cn Try.prog 82 #[.pointer x0,.int .i64 x1] M Q:=by
 try simp only [o2,o3] at H
 try simp only [oA,oB,oP,oS,oI,oU,oi,ob,op,os,ox,ot,oq,om] at H
 try simp only [oa,cD,cE,cN] at H
 try simp only [cB] at H
 exact
 Cn.mk (cuts:=K82) (sp:=Z82) 900 b82 rfl rfl H fun G=>by kernel_rfl
theorem w82_1 {x0:Option Addr} {x1:Int} {x11:Bool} {M:Mem} {Q:Value→Mem→Prop} (H:
 ((x11=true→
 Q (.tuple #[.int .i32 0,.int .i64 2]) M)∧
 (x11=false→
 Cn Try.prog 65 #[.pointer x0] M fun v3' N3'=>
 ∃ x4',asI .i64 v3'=some x4'∧
 (((IntKind.i64.wrap (x1+1)) > x4'→
 Q (.tuple #[.int .i32 0,.int .i64 3]) N3')∧
 (¬ ((IntKind.i64.wrap (x1+1)) > x4')→
 ∃ a5',x0=some a5'∧
 ∃ x6',N3'.intAt .i64 a5'.block (a5'.off+1)=some x6'∧
 Cn Try.prog 66 #[.pointer x0,.int .i64 (IntKind.i64.wrap (x6'+1)),.int .i64 x1] N3' fun v7' N7'=>
 ∃ x8',asI .u32 v7'=some x8'∧
 ∃ a9',x0=some a9'∧
 ∃ x10',N7'.intAt .i64 a9'.block (a9'.off+1)=some x10'∧
 Cn Try.prog 80 #[.pointer x0,.int .i64 x10'] N7' fun v11' N11'=>
 ∃ x12',asI .u32 v11'=some x12'∧
 ((x12'=1→
 (((IntKind.i32.wrap (x8'))=0→
 Q (.tuple #[.int .i32 0,.int .i64 4]) N11')∧
 ((IntKind.i32.wrap (x8'))≠0→
 ∃ a13',x0=some a13'∧
 ∃ x14',N11'.intAt .i64 a13'.block (a13'.off+1)=some x14'∧
 ∃ a15',x0=some a15'∧
 ∃ M16',N11'.put a15'.block (a15'.off+1) (.int .i64 (IntKind.i64.wrap (x14'+(IntKind.i64.wrap (x1+1)))))=some M16'∧
 Q (.tuple #[.int .i32 (IntKind.i32.wrap (0 - (IntKind.i32.wrap (x8')))),.int .i64 0]) M16')))∧
 (x12'≠1→
 ∃ a17',x0=some a17'∧
 ∃ x18',N11'.intAt .i64 a17'.block (a17'.off+1)=some x18'∧
 ∃ a19',x0=some a19'∧
 ∃ M20',N11'.put a19'.block (a19'.off+1) (.int .i64 (IntKind.i64.wrap (x18'+(IntKind.i64.wrap (x1+1)))))=some M20'∧
 Q (.tuple #[.int .i32 (IntKind.i32.wrap (x8')),.int .i64 0]) M20'))))))):
 A82_1 x0 x1 x11 M Q:=by
 try simp only [o2,o3] at H
 try simp only [oA,oB,oP,oS,oI,oU,oi,ob,op,os,ox,ot,oq,om] at H
 try simp only [oa,cD,cE,cN] at H
 try simp only [cB] at H
 exact
 LvP.mk (cuts:=K82) (sp:=Z82) 900 H fun G=>by kernel_rfl
def K40:List (List It × List Nat):=[]
def Z40:List (List Nat × List Nat):=[]
theorem b40:Try.prog.funcs[40]?=some Try.f40∧(Orc.tab Try.prog).lookup 40=none∧Try.f40.body=some (codeOf Try.f40):=⟨by kernel_rfl,by kernel_rfl,by kernel_rfl⟩
theorem w40_0 {x0:Option Addr} {M:Mem} {Q:Value→Mem→Prop} (H:
 Cn Try.prog 64 #[.pointer x0] M fun v1' N1'=>
 ∃ b2',asB v1'=some b2'∧
 (((!b2')=true→
 Q (.int .i64 1) N1')∧
 ((!b2')=false→
 ∃ a3',x0=some a3'∧
 ∃ x4',N1'.intAt .i64 a3'.block (a3'.off+1)=some x4'∧
 ∃ a5',x0=some a5'∧
 ∃ x6',N1'.intAt .i64 a5'.block (a5'.off+1)=some x6'∧
 Cn Try.prog 66 #[.pointer x0,.int .i64 x6',.int .i64 (IntKind.i64.wrap (((BitVec.ofInt (IntKind.bits .i64) (IntKind.i64.wrap (0 - x4')) &&& BitVec.ofInt (IntKind.bits .i64) 7).toNat:Int)))] N1' fun v7' N7'=>
 ∃ x8',asI .u32 v7'=some x8'∧
 ((x8'≠0→
 Q (.int .i64 4) N7')∧
 (x8'=0→
 ∃ a9',x0=some a9'∧
 ∃ x10',N7'.intAt .i64 a9'.block (a9'.off+1)=some x10'∧
 ∃ a11',x0=some a11'∧
 ∃ M12',N7'.put a11'.block (a11'.off+1) (.int .i64 (IntKind.i64.wrap (x10'+(IntKind.i64.wrap (((BitVec.ofInt (IntKind.bits .i64) (IntKind.i64.wrap (0 - x4')) &&& BitVec.ofInt (IntKind.bits .i64) 7).toNat:Int))))))=some M12'∧
 Q (.int .i64 0) M12'))))):
 Cn Try.prog 40 #[.pointer x0] M Q:=by
 try simp only [o2,o3] at H
 try simp only [oA,oB,oP,oS,oI,oU,oi,ob,op,os,ox,ot,oq,om] at H
 try simp only [oa,cD,cE,cN] at H
 try simp only [cB] at H
 exact
 Cn.mk (cuts:=K40) (sp:=Z40) 900 b40 rfl rfl H fun G=>by kernel_rfl
def K31:List (List It × List Nat):=[]
def Z31:List (List Nat × List Nat):=[]
theorem b31:Try.prog.funcs[31]?=some Try.f31∧(Orc.tab Try.prog).lookup 31=none∧Try.f31.body=some (codeOf Try.f31):=⟨by kernel_rfl,by kernel_rfl,by kernel_rfl⟩
theorem w31_0 {Ax0:Option Addr} {lx0 cx0:Nat} {M:Mem} {Q:Value→Mem→Prop} (H:
 Cn Try.prog 61 #[.slice Ax0 lx0 cx0] M fun v1' N1'=>
 ∃ s2',asS v1'=some s2'∧
 Q (.pointer (some ⟨2*N1'.nb.size,0,none⟩)) (N1'.new (.cells #[.slice s2'.1 (s2'.2.1) (s2'.2.2),.int .i64 0,.bool true] 101))):
 Cn Try.prog 31 #[.slice Ax0 lx0 cx0] M Q:=by
 try simp only [o2,o3] at H
 try simp only [oA,oB,oP,oS,oI,oU,oi,ob,op,os,ox,ot,oq,om] at H
 try simp only [oa,cD,cE,cN] at H
 try simp only [cB] at H
 exact
 Cn.mk (cuts:=K31) (sp:=Z31) 900 b31 rfl rfl H fun G=>by kernel_rfl
def K46:List (List It × List Nat):=[]
def Z46:List (List Nat × List Nat):=[]
theorem b46:Try.prog.funcs[46]?=some Try.f46∧(Orc.tab Try.prog).lookup 46=none∧Try.f46.body=some (codeOf Try.f46):=⟨by kernel_rfl,by kernel_rfl,by kernel_rfl⟩
theorem w46_0 {x0:Option Addr} {M:Mem} {Q:Value→Mem→Prop} (H:
 ((x0.isSome=true→
 ∃ a1',x0=some a1'∧
 ∃ b2',M.boolAt a1'.block (a1'.off+2)=some b2'∧
 Q (.bool b2') M)∧
 (x0.isSome=false→
 Q (.bool false) M))):
 Cn Try.prog 46 #[.pointer x0] M Q:=by
 try simp only [o2,o3] at H
 try simp only [oA,oB,oP,oS,oI,oU,oi,ob,op,os,ox,ot,oq,om] at H
 try simp only [oa,cD,cE,cN] at H
 try simp only [cB] at H
 exact
 Cn.mk (cuts:=K46) (sp:=Z46) 900 b46 rfl rfl H fun G=>by kernel_rfl
def K47:List (List It × List Nat):=[]
def Z47:List (List Nat × List Nat):=[]
theorem b47:Try.prog.funcs[47]?=some Try.f47∧(Orc.tab Try.prog).lookup 47=none∧Try.f47.body=some (codeOf Try.f47):=⟨by kernel_rfl,by kernel_rfl,by kernel_rfl⟩
theorem w47_0 {x0:Int} {M:Mem} {Q:Value→Mem→Prop} (H:
 ((x0 ≥ 65536→
 (((x0.fdiv (2 ^ 16)) ≥ 256→
 ∃ v1',strV Try.prog 9 (.string str0) (.int .u8 (IntKind.u8.wrap (((x0.fdiv (2 ^ 16)).fdiv (2 ^ 8)))))=some v1'∧
 ∃ x2',asI .u8 v1'=some x2'∧
 Q (.int .i64 (IntKind.i64.wrap ((IntKind.i64.wrap (16+8))+(IntKind.i64.wrap (x2'))))) M)∧
 (¬ ((x0.fdiv (2 ^ 16)) ≥ 256)→
 ∃ v3',strV Try.prog 9 (.string str0) (.int .u8 (IntKind.u8.wrap ((x0.fdiv (2 ^ 16)))))=some v3'∧
 ∃ x4',asI .u8 v3'=some x4'∧
 Q (.int .i64 (IntKind.i64.wrap (16+(IntKind.i64.wrap (x4'))))) M)))∧
 (¬ (x0 ≥ 65536)→
 ((x0 ≥ 256→
 ∃ v5',strV Try.prog 9 (.string str0) (.int .u8 (IntKind.u8.wrap ((x0.fdiv (2 ^ 8)))))=some v5'∧
 ∃ x6',asI .u8 v5'=some x6'∧
 Q (.int .i64 (IntKind.i64.wrap ((IntKind.i64.wrap (0+8))+(IntKind.i64.wrap (x6'))))) M)∧
 (¬ (x0 ≥ 256)→
 ∃ v7',strV Try.prog 9 (.string str0) (.int .u8 (IntKind.u8.wrap (x0)))=some v7'∧
 ∃ x8',asI .u8 v7'=some x8'∧
 Q (.int .i64 (IntKind.i64.wrap (0+(IntKind.i64.wrap (x8'))))) M))))):
 Cn Try.prog 47 #[.int .u32 x0] M Q:=by
 try simp only [o2,o3] at H
 try simp only [oA,oB,oP,oS,oI,oU,oi,ob,op,os,ox,ot,oq,om] at H
 try simp only [oa,cD,cE,cN] at H
 try simp only [cB] at H
 exact
 Cn.mk (cuts:=K47) (sp:=Z47) 900 b47 rfl rfl H fun G=>by kernel_rfl
def K72:List (List It × List Nat):=[]
def Z72:List (List Nat × List Nat):=[]
theorem b72:Try.prog.funcs[72]?=some Try.f72∧(Orc.tab Try.prog).lookup 72=none∧Try.f72.body=some (codeOf Try.f72):=⟨by kernel_rfl,by kernel_rfl,by kernel_rfl⟩
theorem w72_0 {x0:Int} {M:Mem} {Q:Value→Mem→Prop} (H:
 ((x0 ≥ 4294967296→
 (((x0.fdiv (2 ^ 32)) ≥ 65536→
 ((((x0.fdiv (2 ^ 32)).fdiv (2 ^ 16)) ≥ 256→
 ∃ v1',strV Try.prog 9 (.string str0) (.int .u8 (IntKind.u8.wrap ((((x0.fdiv (2 ^ 32)).fdiv (2 ^ 16)).fdiv (2 ^ 8)))))=some v1'∧
 ∃ x2',asI .u8 v1'=some x2'∧
 Q (.int .i64 (IntKind.i64.wrap ((IntKind.i64.wrap ((IntKind.i64.wrap (32+16))+8))+(IntKind.i64.wrap (x2'))))) M)∧
 (¬ (((x0.fdiv (2 ^ 32)).fdiv (2 ^ 16)) ≥ 256)→
 ∃ v3',strV Try.prog 9 (.string str0) (.int .u8 (IntKind.u8.wrap (((x0.fdiv (2 ^ 32)).fdiv (2 ^ 16)))))=some v3'∧
 ∃ x4',asI .u8 v3'=some x4'∧
 Q (.int .i64 (IntKind.i64.wrap ((IntKind.i64.wrap (32+16))+(IntKind.i64.wrap (x4'))))) M)))∧
 (¬ ((x0.fdiv (2 ^ 32)) ≥ 65536)→
 (((x0.fdiv (2 ^ 32)) ≥ 256→
 ∃ v5',strV Try.prog 9 (.string str0) (.int .u8 (IntKind.u8.wrap (((x0.fdiv (2 ^ 32)).fdiv (2 ^ 8)))))=some v5'∧
 ∃ x6',asI .u8 v5'=some x6'∧
 Q (.int .i64 (IntKind.i64.wrap ((IntKind.i64.wrap (32+8))+(IntKind.i64.wrap (x6'))))) M)∧
 (¬ ((x0.fdiv (2 ^ 32)) ≥ 256)→
 ∃ v7',strV Try.prog 9 (.string str0) (.int .u8 (IntKind.u8.wrap ((x0.fdiv (2 ^ 32)))))=some v7'∧
 ∃ x8',asI .u8 v7'=some x8'∧
 Q (.int .i64 (IntKind.i64.wrap (32+(IntKind.i64.wrap (x8'))))) M)))))∧
 (¬ (x0 ≥ 4294967296)→
 ((x0 ≥ 65536→
 (((x0.fdiv (2 ^ 16)) ≥ 256→
 ∃ v9',strV Try.prog 9 (.string str0) (.int .u8 (IntKind.u8.wrap (((x0.fdiv (2 ^ 16)).fdiv (2 ^ 8)))))=some v9'∧
 ∃ x10',asI .u8 v9'=some x10'∧
 Q (.int .i64 (IntKind.i64.wrap ((IntKind.i64.wrap ((IntKind.i64.wrap (0+16))+8))+(IntKind.i64.wrap (x10'))))) M)∧
 (¬ ((x0.fdiv (2 ^ 16)) ≥ 256)→
 ∃ v11',strV Try.prog 9 (.string str0) (.int .u8 (IntKind.u8.wrap ((x0.fdiv (2 ^ 16)))))=some v11'∧
 ∃ x12',asI .u8 v11'=some x12'∧
 Q (.int .i64 (IntKind.i64.wrap ((IntKind.i64.wrap (0+16))+(IntKind.i64.wrap (x12'))))) M)))∧
 (¬ (x0 ≥ 65536)→
 ((x0 ≥ 256→
 ∃ v13',strV Try.prog 9 (.string str0) (.int .u8 (IntKind.u8.wrap ((x0.fdiv (2 ^ 8)))))=some v13'∧
 ∃ x14',asI .u8 v13'=some x14'∧
 Q (.int .i64 (IntKind.i64.wrap ((IntKind.i64.wrap (0+8))+(IntKind.i64.wrap (x14'))))) M)∧
 (¬ (x0 ≥ 256)→
 ∃ v15',strV Try.prog 9 (.string str0) (.int .u8 (IntKind.u8.wrap (x0)))=some v15'∧
 ∃ x16',asI .u8 v15'=some x16'∧
 Q (.int .i64 (IntKind.i64.wrap (0+(IntKind.i64.wrap (x16'))))) M))))))):
 Cn Try.prog 72 #[.int .u64 x0] M Q:=by
 try simp only [o2,o3] at H
 try simp only [oA,oB,oP,oS,oI,oU,oi,ob,op,os,ox,ot,oq,om] at H
 try simp only [oa,cD,cE,cN] at H
 try simp only [cB] at H
 exact
 Cn.mk (cuts:=K72) (sp:=Z72) 900 b72 rfl rfl H fun G=>by kernel_rfl
def K48:List (List It × List Nat):=[([.code [1,0,0],.lp [1,0,0],.blk 0],[0,1,6])]
def Z48:List (List Nat × List Nat):=[]
theorem b48:Try.prog.funcs[48]?=some Try.f48∧(Orc.tab Try.prog).lookup 48=none∧Try.f48.body=some (codeOf Try.f48):=⟨by kernel_rfl,by kernel_rfl,by kernel_rfl⟩
def A48_1 (x0:Option Addr) (x1 x6:Int) (M:Mem) (Q:Value→Mem→Prop):Prop:=LvP Try.prog Try.f48 [(0,.pointer x0),(1,.int .u64 x1),(6,.int .i64 x6)] [.code [1,0,0],.lp [1,0,0],.blk 0] M Q
theorem w48_0 {x0:Option Addr} {x1 x2:Int} {M:Mem} {Q:Value→Mem→Prop} (H:
 A48_1 x0 x1 (IntKind.i64.wrap (x2 - 1)) M Q):
 Cn Try.prog 48 #[.pointer x0,.int .u64 x1,.int .i64 x2] M Q:=by
 try simp only [o2,o3] at H
 try simp only [oA,oB,oP,oS,oI,oU,oi,ob,op,os,ox,ot,oq,om] at H
 try simp only [oa,cD,cE,cN] at H
 try simp only [cB] at H
 exact
 Cn.mk (cuts:=K48) (sp:=Z48) 900 b48 rfl rfl H fun G=>by kernel_rfl
theorem w48_1 {x0:Option Addr} {x1 x6:Int} {M:Mem} {Q:Value→Mem→Prop} (H:
 ((x6 ≥ 0→
 ∃ a1',x0=some a1'∧
 ∃ x2',M.intAt .i64 a1'.block (a1'.off+1)=some x2'∧
 ((x2'=0→
 ∃ a3',x0=some a3'∧
 ∃ s4',M.slAt a3'.block a3'.off=some s4'∧
 ∃ r5',appendP Try.prog #[24,24] (.slice s4'.1 (s4'.2.1) (s4'.2.2)) (.slice (some ⟨2*M.nb.size,0,none⟩) 1 1) (M.new (.cells #[.int .u8 0] 5))=some r5'∧
 ∃ s6',asS r5'.1=some s6'∧
 ∃ a7',x0=some a7'∧
 ∃ M8',r5'.2.put a7'.block a7'.off (.slice s6'.1 (s6'.2.1) (s6'.2.2))=some M8'∧
 ∃ a9',x0=some a9'∧
 ∃ M10',M8'.put a9'.block (a9'.off+1) (.int .i64 8)=some M10'∧
 ∃ a11',x0=some a11'∧
 ∃ x12',M10'.intAt .i64 a11'.block (a11'.off+1)=some x12'∧
 ∃ a13',x0=some a13'∧
 ∃ M14',M10'.put a13'.block (a13'.off+1) (.int .i64 (IntKind.i64.wrap (x12' - 1)))=some M14'∧
 ∃ a15',x0=some a15'∧
 ∃ s16',M14'.slAt a15'.block a15'.off=some s16'∧
 ∃ a17',x0=some a17'∧
 ∃ s18',M14'.slAt a17'.block a17'.off=some s18'∧
 ∃ a19',idxA s16'.1 (s16'.2.1) 1 (IntKind.i64.wrap (((s18'.2.1:Int)) - 1))=some a19'∧
 ∃ x20',M14'.intAt .u8 a19'.block a19'.off=some x20'∧
 ∃ v21',binV Try.prog .shr 86 3 (.int .u64 x1) (.int .i64 x6)=some v21'∧
 ∃ x22',asI .u64 v21'=some x22'∧
 ∃ a23',x0=some a23'∧
 ∃ x24',M14'.intAt .i64 a23'.block (a23'.off+1)=some x24'∧
 ∃ v25',binV Try.prog .shl 5 3 (.int .u8 (IntKind.u8.wrap (IntKind.u64.wrap (((BitVec.ofInt (IntKind.bits .u64) x22' &&& BitVec.ofInt (IntKind.bits .u64) 1).toNat:Int))))) (.int .i64 x24')=some v25'∧
 ∃ x26',asI .u8 v25'=some x26'∧
 ∃ a27',idxA s16'.1 (s16'.2.1) 1 (IntKind.i64.wrap (((s18'.2.1:Int)) - 1))=some a27'∧
 ∃ M28',M14'.put a27'.block a27'.off (.int .u8 (IntKind.u8.wrap (((BitVec.ofInt (IntKind.bits .u8) x20' ||| BitVec.ofInt (IntKind.bits .u8) x26').toNat:Int))))=some M28'∧
 A48_1 x0 x1 (IntKind.i64.wrap (x6 - 1)) M28' Q)∧
 (x2'≠0→
 ∃ a29',x0=some a29'∧
 ∃ x30',M.intAt .i64 a29'.block (a29'.off+1)=some x30'∧
 ∃ a31',x0=some a31'∧
 ∃ M32',M.put a31'.block (a31'.off+1) (.int .i64 (IntKind.i64.wrap (x30' - 1)))=some M32'∧
 ∃ a33',x0=some a33'∧
 ∃ s34',M32'.slAt a33'.block a33'.off=some s34'∧
 ∃ a35',x0=some a35'∧
 ∃ s36',M32'.slAt a35'.block a35'.off=some s36'∧
 ∃ a37',idxA s34'.1 (s34'.2.1) 1 (IntKind.i64.wrap (((s36'.2.1:Int)) - 1))=some a37'∧
 ∃ x38',M32'.intAt .u8 a37'.block a37'.off=some x38'∧
 ∃ v39',binV Try.prog .shr 86 3 (.int .u64 x1) (.int .i64 x6)=some v39'∧
 ∃ x40',asI .u64 v39'=some x40'∧
 ∃ a41',x0=some a41'∧
 ∃ x42',M32'.intAt .i64 a41'.block (a41'.off+1)=some x42'∧
 ∃ v43',binV Try.prog .shl 5 3 (.int .u8 (IntKind.u8.wrap (IntKind.u64.wrap (((BitVec.ofInt (IntKind.bits .u64) x40' &&& BitVec.ofInt (IntKind.bits .u64) 1).toNat:Int))))) (.int .i64 x42')=some v43'∧
 ∃ x44',asI .u8 v43'=some x44'∧
 ∃ a45',idxA s34'.1 (s34'.2.1) 1 (IntKind.i64.wrap (((s36'.2.1:Int)) - 1))=some a45'∧
 ∃ M46',M32'.put a45'.block a45'.off (.int .u8 (IntKind.u8.wrap (((BitVec.ofInt (IntKind.bits .u8) x38' ||| BitVec.ofInt (IntKind.bits .u8) x44').toNat:Int))))=some M46'∧
 A48_1 x0 x1 (IntKind.i64.wrap (x6 - 1)) M46' Q)))∧
 (¬ (x6 ≥ 0)→
 Q (.tuple #[]) M))):
 A48_1 x0 x1 x6 M Q:=by
 try simp only [o2,o3] at H
 try simp only [oA,oB,oP,oS,oI,oU,oi,ob,op,os,ox,ot,oq,om] at H
 try simp only [oa,cD,cE,cN] at H
 try simp only [cB] at H
 exact
 LvP.mk (cuts:=K48) (sp:=Z48) 900 H fun G=>by kernel_rfl
def K22:List (List It × List Nat):=[([.code [1,0,0,1,1,1],.blk 0,.code [1,1]],[0,1,2,11])]
def Z22:List (List Nat × List Nat):=[]
theorem b22:Try.prog.funcs[22]?=some Try.f22∧(Orc.tab Try.prog).lookup 22=none∧Try.f22.body=some (codeOf Try.f22):=⟨by kernel_rfl,by kernel_rfl,by kernel_rfl⟩
def A22_1 (x0:Option Addr) (x1 x2:Int) (x11:Bool) (M:Mem) (Q:Value→Mem→Prop):Prop:=LvP Try.prog Try.f22 [(0,.pointer x0),(1,.int .u32 x1),(2,.int .i64 x2),(11,.bool x11)] [.code [1,0,0,1,1,1],.blk 0,.code [1,1]] M Q
theorem w22_0 {x0:Option Addr} {x1 x2:Int} {M:Mem} {Q:Value→Mem→Prop} (H:
 Cn Try.prog 46 #[.pointer x0] M fun v1' N1'=>
 ∃ b2',asB v1'=some b2'∧
 (((!b2')=true→
 Q (.int .i64 1) N1')∧
 ((!b2')=false→
 ((x2<0→
 A22_1 x0 x1 x2 true N1' Q)∧
 (¬ (x2<0)→
 ((x2 > 32→
 A22_1 x0 x1 x2 true N1' Q)∧
 (¬ (x2 > 32)→
 Cn Try.prog 47 #[.int .u32 x1] N1' fun v3' N3'=>
 ∃ x4',asI .i64 v3'=some x4'∧
 A22_1 x0 x1 x2 (decide (x4' > x2)) N3' Q))))))):
 Cn Try.prog 22 #[.pointer x0,.int .u32 x1,.int .i64 x2] M Q:=by
 try simp only [o2,o3] at H
 try simp only [oA,oB,oP,oS,oI,oU,oi,ob,op,os,ox,ot,oq,om] at H
 try simp only [oa,cD,cE,cN] at H
 try simp only [cB] at H
 exact
 Cn.mk (cuts:=K22) (sp:=Z22) 900 b22 rfl rfl H fun G=>by kernel_rfl
theorem w22_1 {x0:Option Addr} {x1 x2:Int} {x11:Bool} {M:Mem} {Q:Value→Mem→Prop} (H:
 ((x11=true→
 Q (.int .i64 2) M)∧
 (x11=false→
 Cn Try.prog 48 #[.pointer x0,.int .u64 (IntKind.u64.wrap (x1)),.int .i64 x2] M fun v5' N5'=>
 Q (.int .i64 0) N5'))):
 A22_1 x0 x1 x2 x11 M Q:=by
 try simp only [o2,o3] at H
 try simp only [oA,oB,oP,oS,oI,oU,oi,ob,op,os,ox,ot,oq,om] at H
 try simp only [oa,cD,cE,cN] at H
 try simp only [cB] at H
 exact
 LvP.mk (cuts:=K22) (sp:=Z22) 900 H fun G=>by kernel_rfl
def K43:List (List It × List Nat):=[([.code [1,1,1,1,0,1],.code [1,1,1,1,1]],[0,2,7,8,31])]
def Z43:List (List Nat × List Nat):=[]
theorem b43:Try.prog.funcs[43]?=some Try.f43∧(Orc.tab Try.prog).lookup 43=none∧Try.f43.body=some (codeOf Try.f43):=⟨by kernel_rfl,by kernel_rfl,by kernel_rfl⟩
def A43_1 (x0:Option Addr) (x2 x7 x8:Int) (x31:Bool) (M:Mem) (Q:Value→Mem→Prop):Prop:=LvP Try.prog Try.f43 [(0,.pointer x0),(2,.int .i64 x2),(7,.int .u64 x7),(8,.int .u64 x8),(31,.bool x31)] [.code [1,1,1,1,0,1],.code [1,1,1,1,1]] M Q
theorem w43_0 {x0:Option Addr} {x1 x2:Int} {M:Mem} {Q:Value→Mem→Prop} (H:
 Cn Try.prog 46 #[.pointer x0] M fun v1' N1'=>
 ∃ b2',asB v1'=some b2'∧
 (((!b2')=true→
 Q (.int .i64 1) N1')∧
 ((!b2')=false→
 ((x1<0→
 ((x2<1→
 A43_1 x0 x2 (IntKind.u64.wrap (IntKind.i64.wrap (0 - (IntKind.i64.wrap (x1))))) 1 true N1' Q)∧
 (¬ (x2<1)→
 ((x2 > 31→
 A43_1 x0 x2 (IntKind.u64.wrap (IntKind.i64.wrap (0 - (IntKind.i64.wrap (x1))))) 1 true N1' Q)∧
 (¬ (x2 > 31)→
 Cn Try.prog 72 #[.int .u64 (IntKind.u64.wrap (IntKind.i64.wrap (0 - (IntKind.i64.wrap (x1)))))] N1' fun v3' N3'=>
 ∃ x4',asI .i64 v3'=some x4'∧
 A43_1 x0 x2 (IntKind.u64.wrap (IntKind.i64.wrap (0 - (IntKind.i64.wrap (x1))))) 1 (decide (x4' > x2)) N3' Q)))))∧
 (¬ (x1<0)→
 ((x2<1→
 A43_1 x0 x2 (IntKind.u64.wrap (x1)) 0 true N1' Q)∧
 (¬ (x2<1)→
 ((x2 > 31→
 A43_1 x0 x2 (IntKind.u64.wrap (x1)) 0 true N1' Q)∧
 (¬ (x2 > 31)→
 Cn Try.prog 72 #[.int .u64 (IntKind.u64.wrap (x1))] N1' fun v5' N5'=>
 ∃ x6',asI .i64 v5'=some x6'∧
 A43_1 x0 x2 (IntKind.u64.wrap (x1)) 0 (decide (x6' > x2)) N5' Q))))))))):
 Cn Try.prog 43 #[.pointer x0,.int .i32 x1,.int .i64 x2] M Q:=by
 try simp only [o2,o3] at H
 try simp only [oA,oB,oP,oS,oI,oU,oi,ob,op,os,ox,ot,oq,om] at H
 try simp only [oa,cD,cE,cN] at H
 try simp only [cB] at H
 exact
 Cn.mk (cuts:=K43) (sp:=Z43) 900 b43 rfl rfl H fun G=>by kernel_rfl
theorem w43_1 {x0:Option Addr} {x2 x7 x8:Int} {x31:Bool} {M:Mem} {Q:Value→Mem→Prop} (H:
 ((x31=true→
 Q (.int .i64 2) M)∧
 (x31=false→
 ∃ v7',binV Try.prog .shl 86 3 (.int .u64 x8) (.int .i64 x2)=some v7'∧
 ∃ x8',asI .u64 v7'=some x8'∧
 Cn Try.prog 48 #[.pointer x0,.int .u64 (IntKind.u64.wrap (((BitVec.ofInt (IntKind.bits .u64) x8' ||| BitVec.ofInt (IntKind.bits .u64) x7).toNat:Int))),.int .i64 (IntKind.i64.wrap (x2+1))] M fun v9' N9'=>
 Q (.int .i64 0) N9'))):
 A43_1 x0 x2 x7 x8 x31 M Q:=by
 try simp only [o2,o3] at H
 try simp only [oA,oB,oP,oS,oI,oU,oi,ob,op,os,ox,ot,oq,om] at H
 try simp only [oa,cD,cE,cN] at H
 try simp only [cB] at H
 exact
 LvP.mk (cuts:=K43) (sp:=Z43) 900 H fun G=>by kernel_rfl
def K19:List (List It × List Nat):=[]
def Z19:List (List Nat × List Nat):=[]
theorem b19:Try.prog.funcs[19]?=some Try.f19∧(Orc.tab Try.prog).lookup 19=none∧Try.f19.body=some (codeOf Try.f19):=⟨by kernel_rfl,by kernel_rfl,by kernel_rfl⟩
theorem w19_0 {M:Mem} {Q:Value→Mem→Prop} (H:
 Q (.pointer (some ⟨2*M.nb.size,0,none⟩)) (M.new (.cells #[.slice none 0 0,.int .i64 0,.bool true] 73))):
 Cn Try.prog 19 #[] M Q:=by
 try simp only [o2,o3] at H
 try simp only [oA,oB,oP,oS,oI,oU,oi,ob,op,os,ox,ot,oq,om] at H
 try simp only [oa,cD,cE,cN] at H
 try simp only [cB] at H
 exact
 Cn.mk (cuts:=K19) (sp:=Z19) 900 b19 rfl rfl H fun G=>by kernel_rfl
def K28:List (List It × List Nat):=[]
def Z28:List (List Nat × List Nat):=[]
theorem b28:Try.prog.funcs[28]?=some Try.f28∧(Orc.tab Try.prog).lookup 28=none∧Try.f28.body=some (codeOf Try.f28):=⟨by kernel_rfl,by kernel_rfl,by kernel_rfl⟩
theorem w28_0 {x0:Option Addr} {M:Mem} {Q:Value→Mem→Prop} (H:
 Cn Try.prog 46 #[.pointer x0] M fun v1' N1'=>
 ∃ b2',asB v1'=some b2'∧
 (((!b2')=true→
 Q (.slice none 0 0) N1')∧
 ((!b2')=false→
 ∃ a3',x0=some a3'∧
 ∃ s4',N1'.slAt a3'.block a3'.off=some s4'∧
 Cn Try.prog 61 #[.slice s4'.1 (s4'.2.1) (s4'.2.2)] N1' fun v5' N5'=>
 ∃ s6',asS v5'=some s6'∧
 Q (.slice s6'.1 (s6'.2.1) (s6'.2.2)) N5'))):
 Cn Try.prog 28 #[.pointer x0] M Q:=by
 try simp only [o2,o3] at H
 try simp only [oA,oB,oP,oS,oI,oU,oi,ob,op,os,ox,ot,oq,om] at H
 try simp only [oa,cD,cE,cN] at H
 try simp only [cB] at H
 exact
 Cn.mk (cuts:=K28) (sp:=Z28) 900 b28 rfl rfl H fun G=>by kernel_rfl
end Go.Zt

/- Layer 1: numbers of bits; the program's readers. -/
set_option linter.unusedSimpArgs false
set_option linter.unusedVariables false
namespace Go.Zt
open Go Go.Sim Go.Proofs Go.RowKit
abbrev U8 (l:List Nat):List Value:=l.map fun x=>Value.int .u8 (x:Nat)
abbrev Byt (l:List Nat):Prop:=∀ x ∈ l,x<256
theorem el5:ElemS Try.prog 24 5 1 1 (.int .u8 0):=⟨by kernel_rfl,by kernel_rfl,rfl,by decide,by decide⟩
def bitOf (b:List Nat) (i:Nat):Nat:=b.getD (i / 8) 0 / 2 ^ (7 - i % 8) % 2
theorem bitOf_lt (b:List Nat) (i:Nat):bitOf b i<2:=Nat.mod_lt _ (by decide)
def numb (f:Nat→Nat) (a:Nat):Nat→Nat
  | 0=>0
  | n+1=>2*numb f a n+f (a+n)
theorem numb_lt {f:Nat→Nat} (hf:∀ i,f i<2) (a:Nat):∀ n,numb f a n<2 ^ n
  | 0=>by simp [numb]
  | n+1=>by
    have:=numb_lt hf a n
    have:=hf (a+n)
    simp only [numb,Nat.pow_succ]; omega
theorem numb_cons (f:Nat→Nat) (a:Nat):∀ n,numb f a (n+1)=f a*2 ^ n+numb f (a+1) n
  | 0=>by simp [numb]
  | n+1=>by
    rw [numb,numb_cons f a n,numb,Nat.pow_succ,show a+1+n=a+(n+1) by omega]
    have e:f a*(2 ^ n*2)=2*(f a*2 ^ n):=by rw [← Nat.mul_assoc,Nat.mul_comm _ 2]
    rw [e]; omega
theorem pow32 {n:Nat} (h:n≤32):2 ^ n≤4294967296:=Nat.pow_le_pow_right (n:=2) (by decide) h
theorem pow31 {n:Nat} (h:n≤31):2 ^ n≤2147483648:=Nat.pow_le_pow_right (n:=2) (by decide) h
def rFixed (b:List Nat) (p:Nat) (n:Int):Nat × Nat × Nat:=
  if n<0∨n > 32 then (0,2,p) else if n > ((8*b.length:Nat):Int) - p then (0,3,p) else (numb (bitOf b) p n.toNat,0,p+n.toNat)
def rSigned (b:List Nat) (p:Nat) (n:Int):Int × Nat × Nat:=
  if n<1∨n > 31 then (0,2,p) else if n+1 > ((8*b.length:Nat):Int) - p then (0,3,p)
  else if bitOf b p=1 then
    if numb (bitOf b) (p+1) n.toNat=0 then (0,4,p) else (-((numb (bitOf b) (p+1) n.toNat:Nat):Int),0,p+(n.toNat+1))
  else (numb (bitOf b) (p+1) n.toNat,0,p+(n.toNat+1))
def rAlign (b:List Nat) (p:Nat):Nat × Nat:=
  let n:=(8 - p % 8) % 8
  if numb (bitOf b) p n≠0 then (4,p) else (0,p+n)
abbrev PtrB (j:Nat):Value:=.pointer (some ⟨2*j,0,none⟩)
structure Rdr (S:Nat→Prop) (M:Mem) (j:Nat) (b:List Nat) (p:Nat):Prop where
  out:¬ S j
  byt:Byt b
  len:b.length≤4294967296
  pos:p≤8*b.length
  ex:∃ A c,M.nb[j]?=some (.cells #[.slice A b.length c,.int .i64 (p:Nat),.bool true] 101)∧Row M A (U8 b)∧b.length≤c∧(A=none→c=0)∧∀ a,A=some a→a.block % 2=1∨S (a.block / 2)
theorem Rdr.chg {S T:Nat→Prop} {M M':Mem} {j:Nat} {b:List Nat} {p:Nat} (h:Rdr S M j b p) (k:Chg T M M') (hj:¬ T j) (hS:∀ i,S i→¬ T i):Rdr S M' j b p:=by
  obtain ⟨A,c,h1,h2,h3,h0,h4⟩:=h.ex
  exact ⟨h.out,h.byt,h.len,h.pos,A,c,at_chg h1 k hj,h2.chg k fun a ha=>(h4 a ha).imp id (hS _),h3,h0,h4⟩
theorem Rdr.keep {S:Nat→Prop} {M M':Mem} {j:Nat} {b:List Nat} {p:Nat} (h:Rdr S M j b p) (k:Keep M M'):Rdr S M' j b p:=h.chg k (fun x=>x) fun _ _ x=>x
theorem Rdr.set {S:Nat→Prop} {M:Mem} {j:Nat} {b:List Nat} {p:Nat} (h:Rdr S M j b p) (hf:M.floor≤j) {p':Nat} (hp:p'≤8*b.length) {z:Int} (hz:z=(p':Int)):
    ∃ M',M.put (2*j) 1 (.int .i64 z)=some M'∧Chg (· = j) M M'∧M'.nb.size=M.nb.size∧Rdr S M' j b p':=by
  subst hz
  obtain ⟨A,c,h1,h2,h3,h0,h4⟩:=h.ex
  have hC:Chg (· = j) M (M.upd j (.cells (#[.slice A b.length c,.int .i64 (p:Nat),.bool true].setIfInBounds 1 (.int .i64 (p':Nat))) 101)):=upd_chg rfl
  exact ⟨_,put_of h1 hf (by simp) rfl,hC,upd_size _,h.out,h.byt,h.len,hp,A,c,upd_at (lt_of_at h1),h2.chg hC fun a ha=>(h4 a ha).imp id fun hs e=>h.out (e ▸ hs),h3,h0,h4⟩
section
variable {S:Nat→Prop} {M:Mem} {j:Nat} {b:List Nat} {p:Nat}
theorem c80 (h:Rdr S M j b p) {i:Nat} {z:Int} (hz:z=(i:Int)) (hi:i<8*b.length):Cn Try.prog 80 #[PtrB j,.int .i64 z] M fun v N=>v=.int .u32 (bitOf b i:Nat)∧N=M:=by
  subst hz
  obtain ⟨A,c,h1,h2,h3,h0,h4⟩:=h.ex
  have hl:=h.len
  have hb:i / 8<b.length:=by omega
  have hx:b[i / 8]<256:=h.byt _ (List.getElem_mem _)
  obtain ⟨a,i1,i2⟩:=h2.int1 (n:=b.length) (i:=i / 8) (z:=IntKind.i64.wrap ((i:Int).tdiv 8)) (k:=.u8) (x:=(b[i / 8]:Nat)) (by rw [show ((i:Int).tdiv 8)=((i / 8:Nat):Int) from tdivN i 8,i64w (by omega)]) hb (by simp [hb])
  refine w80_0 ⟨_,rfl,_,sl_of h1 rfl,_,i1,_,i2,_,shr_nat (q:=7 - i % 8) (by rw [show ((i:Int).tmod 8)=((i % 8:Nat):Int) from tmodN i 8,i64w (by omega)]; omega) (by show 7 - i % 8≤8; omega),_,rfl,?_,rfl⟩
  have hq:b[i / 8] / 2 ^ (7 - i % 8)<256:=Nat.lt_of_le_of_lt (Nat.div_le_self _ _) hx
  have e2:bitOf b i=b[i / 8] / 2 ^ (7 - i % 8) % 2:=by simp [bitOf,hb]
  rw [e2]
  generalize b[i / 8] / 2 ^ (7 - i % 8)=w at hq
  have e0:IntKind.u32.wrap ((w:Nat):Int)=(w:Nat):=u32w (by omega)
  rw [e0,and_mask (k:=.u32) rfl (m:=1) (c:=1) rfl (by decide) (show _<2 ^ 32 by omega)]
theorem c66_loop (h:Rdr S M j b p) {a n:Nat} (hn:n≤32) (ha:a+n≤8*b.length) {Q:Value→Mem→Prop} (hQ:Q (.int .u32 (numb (bitOf b) a n:Nat)) M):
    ∀ (k i:Nat),i+k=n→A66_1 (some ⟨2*j,0,none⟩) a (numb (bitOf b) a i:Nat) n i M Q
  | 0,i,hi=>by
    refine w66_1 ⟨fun h=>by omega,fun _=>?_⟩
    obtain rfl:i=n:=by omega
    exact hQ
  | k+1,i,hi=>by
    have hl:=h.len
    refine w66_1 ⟨fun _=>Cn.eq (c80 h (i:=a+i) (by rw [i64w (by omega)]; omega) (by omega)) ?_,fun h=>by omega⟩
    refine ⟨_,rfl,?_⟩
    have h1:=numb_lt (bitOf_lt b) a i
    have h2:=bitOf_lt b (a+i)
    have h3:2 ^ i≤2147483648:=pow31 (by omega)
    have e1:IntKind.u32.wrap (((numb (bitOf b) a i:Nat):Int)*2 ^ 1)=((numb (bitOf b) a i*2:Nat):Int):=by rw [u32w (by omega)]; omega
    have e2:numb (bitOf b) a i*2 ||| bitOf b (a+i)=numb (bitOf b) a (i+1):=by
      rw [or_add (k:=1) ⟨numb (bitOf b) a i,by omega⟩ (by omega)]; simp only [numb]; omega
    rw [e1,or_nat (k:=.u32) rfl (show _<2 ^ 32 by omega) (show _<2 ^ 32 by omega),e2,i64w (by omega),show ((i:Int)+1)=((i+1:Nat):Int) by omega]
    exact c66_loop h hn ha hQ k (i+1) (by omega)
theorem c66 (h:Rdr S M j b p) {a n:Nat} {z y:Int} (hz:z=(a:Int)) (hy:y=(n:Int)) (hn:n≤32) (ha:a+n≤8*b.length):
    Cn Try.prog 66 #[PtrB j,.int .i64 z,.int .i64 y] M fun v N=>v=.int .u32 (numb (bitOf b) a n:Nat)∧N=M:=by
  subst hz hy
  exact w66_0 (c66_loop h hn ha ⟨rfl,rfl⟩ n 0 (by omega))
theorem c64 (h:Rdr S M j b p):Cn Try.prog 64 #[PtrB j] M fun v N=>v=.bool true∧N=M:=by
  obtain ⟨A,c,h1,h2,h3,h0,h4⟩:=h.ex
  exact w64_0 ⟨fun _=>⟨_,rfl,_,bool_of h1 rfl,rfl,rfl⟩,fun h=>absurd h (by simp)⟩
theorem c65 (h:Rdr S M j b p):Cn Try.prog 65 #[PtrB j] M fun v N=>v=.int .i64 ((8*b.length - p:Nat):Int)∧N=M:=by
  obtain ⟨A,c,h1,h2,h3,h0,h4⟩:=h.ex
  have hl:=h.len
  have hp:=h.pos
  refine w65_0 ⟨_,rfl,_,sl_of h1 rfl,_,rfl,_,int_of h1 rfl,?_,rfl⟩
  show Value.int .i64 (IntKind.i64.wrap (IntKind.i64.wrap (8*(b.length:Int)) - (p:Int)))=_
  rw [i64w (x:=8*(b.length:Int)) (by omega),i64w (by omega)]
  congr 1; omega
theorem c37 (h:Rdr S M j b p):Cn Try.prog 37 #[PtrB j] M fun v N=>v=.int .i64 ((8*b.length - p:Nat):Int)∧N=M:=by
  refine w37_0 (Cn.eq (c64 h) ?_)
  refine ⟨_,rfl,fun h=>absurd h (by simp),fun _=>Cn.eq (c65 h) ?_⟩
  exact ⟨_,rfl,rfl,rfl⟩
def RdR (S:Nat→Prop) (M:Mem) (j:Nat) (b:List Nat) (u:Value) (p':Nat):Value→Mem→Prop:=fun v N=>v=u∧Chg (· = j) M N∧N.nb.size=M.nb.size∧Rdr S N j b p'
theorem RdR.same (h:Rdr S M j b p) {u:Value}:RdR S M j b u p u M:=⟨rfl,.refl _,rfl,h⟩
theorem c33 (h:Rdr S M j b p) (hf:M.floor≤j) (n:Int):
    Cn Try.prog 33 #[PtrB j,.int .i64 n] M (RdR S M j b (.tuple #[.int .u32 ((rFixed b p n).1:Nat),.int .i64 ((rFixed b p n).2.1:Nat)]) (rFixed b p n).2.2):=by
  have hp:=h.pos
  have hl:=h.len
  refine w33_0 (Cn.eq (c64 h) ?_)
  refine ⟨_,rfl,fun h=>absurd h (by simp),fun _=>?_⟩
  by_cases h0:n<0∨n > 32
  · have e:rFixed b p n=(0,2,p):=by unfold rFixed; rw [if_pos h0]
    rw [e]
    have key:A33_1 (some ⟨2*j,0,none⟩) n true M (RdR S M j b (.tuple #[.int .u32 ((0:Nat):Int),.int .i64 ((2:Nat):Int)]) p):=w33_1 ⟨fun _=>.same h,fun h=>(by cases h)⟩
    refine ⟨fun _=>key,fun h1=>?_⟩
    rw [decide_eq_true (show n > 32 by omega)]; exact key
  · refine ⟨fun h=>by omega,fun _=>?_⟩
    rw [decide_eq_false (show ¬ n > 32 by omega)]
    refine w33_1 ⟨fun h=>(by cases h),fun _=>Cn.eq (c65 h) ?_⟩
    refine ⟨_,rfl,fun h1=>?_,fun h1=>?_⟩
    · have e:rFixed b p n=(0,3,p):=by unfold rFixed; rw [if_neg h0,if_pos (by omega)]
      rw [e]; exact .same h
    · have e:rFixed b p n=(numb (bitOf b) p n.toNat,0,p+n.toNat):=by unfold rFixed; rw [if_neg h0,if_neg (by omega)]
      rw [e]
      obtain ⟨A,c,g1,g2,g3,_,g4⟩:=h.ex
      refine ⟨_,rfl,_,int_of g1 rfl,Cn.eq (c66 h (a:=p) (n:=n.toNat) rfl (by omega) (by omega) (by omega)) ?_⟩
      obtain ⟨M',m1,m2,m3,m4⟩:=h.set hf (p':=p+n.toNat) (z:=IntKind.i64.wrap ((p:Int)+n)) (by omega) (by rw [i64w (by omega)]; omega)
      exact ⟨_,rfl,_,rfl,_,int_of g1 rfl,_,rfl,_,m1,rfl,m2,m3,m4⟩
theorem c82 (h:Rdr S M j b p) (hf:M.floor≤j) (n:Int):
    Cn Try.prog 82 #[PtrB j,.int .i64 n] M (RdR S M j b (.tuple #[.int .i32 (rSigned b p n).1,.int .i64 ((rSigned b p n).2.1:Nat)]) (rSigned b p n).2.2):=by
  have hp:=h.pos
  have hl:=h.len
  refine w82_0 (Cn.eq (c64 h) ?_)
  refine ⟨_,rfl,fun h=>absurd h (by simp),fun _=>?_⟩
  by_cases h0:n<1∨n > 31
  · have e:rSigned b p n=(0,2,p):=by unfold rSigned; rw [if_pos h0]
    rw [e]
    have key:A82_1 (some ⟨2*j,0,none⟩) n true M (RdR S M j b (.tuple #[.int .i32 0,.int .i64 ((2:Nat):Int)]) p):=w82_1 ⟨fun _=>.same h,fun h=>(by cases h)⟩
    refine ⟨fun _=>key,fun h1=>?_⟩
    rw [decide_eq_true (show n > 31 by omega)]; exact key
  · refine ⟨fun h=>by omega,fun _=>?_⟩
    rw [decide_eq_false (show ¬ n > 31 by omega)]
    refine w82_1 ⟨fun h=>(by cases h),fun _=>Cn.eq (c65 h) ?_⟩
    have e1:IntKind.i64.wrap (n+1)=n+1:=i64w (by omega)
    rw [e1]
    refine ⟨_,rfl,fun h1=>?_,fun h1=>?_⟩
    · have e:rSigned b p n=(0,3,p):=by unfold rSigned; rw [if_neg h0,if_pos (by omega)]
      rw [e]; exact .same h
    · have hlt:=numb_lt (bitOf_lt b) (p+1) n.toNat
      have h31:=pow31 (n:=n.toNat) (by omega)
      obtain ⟨A,c,g1,g2,g3,_,g4⟩:=h.ex
      refine ⟨_,rfl,_,int_of g1 rfl,Cn.eq (c66 h (a:=p+1) (n:=n.toNat) (by rw [i64w (by omega)]; omega) (by omega) (by omega) (by omega)) ?_⟩
      refine ⟨_,rfl,_,rfl,_,int_of g1 rfl,Cn.eq (c80 h (i:=p) rfl (by omega)) ?_⟩
      have e2:IntKind.i32.wrap ((numb (bitOf b) (p+1) n.toNat:Nat):Int)=(numb (bitOf b) (p+1) n.toNat:Nat):=i32w (by omega)
      rw [e2]
      obtain ⟨M',m1,m2,m3,m4⟩:=h.set hf (p':=p+(n.toNat+1)) (z:=IntKind.i64.wrap ((p:Int)+(n+1))) (by omega) (by rw [i64w (by omega)]; omega)
      refine ⟨_,rfl,fun h2=>⟨fun h3=>?_,fun h3=>⟨_,rfl,_,int_of g1 rfl,_,rfl,_,m1,?_⟩⟩,fun h2=>⟨_,rfl,_,int_of g1 rfl,_,rfl,_,m1,?_⟩⟩
      · have e:rSigned b p n=(0,4,p):=by unfold rSigned; rw [if_neg h0,if_neg (by omega),if_pos (by omega),if_pos (by omega)]
        rw [e]; exact .same h
      · have e:rSigned b p n=(-((numb (bitOf b) (p+1) n.toNat:Nat):Int),0,p+(n.toNat+1)):=by unfold rSigned; rw [if_neg h0,if_neg (by omega),if_pos (by omega),if_neg (by omega)]
        rw [e,show (0:Int) - ((numb (bitOf b) (p+1) n.toNat:Nat):Int) = -((numb (bitOf b) (p+1) n.toNat:Nat):Int) by omega,i32w (by omega)]
        exact ⟨rfl,m2,m3,m4⟩
      · have e:rSigned b p n=(((numb (bitOf b) (p+1) n.toNat:Nat):Int),0,p+(n.toNat+1)):=by unfold rSigned; rw [if_neg h0,if_neg (by omega),if_neg (by omega)]
        rw [e]
        exact ⟨rfl,m2,m3,m4⟩
end
end Go.Zt

/- Layer 1: the program's readers,further. -/
set_option linter.unusedSimpArgs false
set_option linter.unusedVariables false
namespace Go.Zt
open Go Go.Sim Go.Proofs Go.RowKit
section
variable {S:Nat→Prop} {M:Mem} {j:Nat} {b:List Nat} {p:Nat}
theorem c40 (h:Rdr S M j b p) (hf:M.floor≤j):Cn Try.prog 40 #[PtrB j] M (RdR S M j b (.int .i64 ((rAlign b p).1:Nat)) (rAlign b p).2):=by
  obtain ⟨A,c,g1,g2,g3,g0,g4⟩:=h.ex
  have hp:=h.pos
  have hl:=h.len
  have e1:IntKind.i64.wrap (((BitVec.ofInt (IntKind.bits .i64) (IntKind.i64.wrap (0 - (p:Int))) &&& BitVec.ofInt (IntKind.bits .i64) 7).toNat:Nat):Int)=(((8 - p % 8) % 8:Nat):Int):=by
    rw [i64w (x:=0 - (p:Int)) (by omega),and7_i64]; omega
  refine w40_0 (Cn.eq (c64 h) ⟨_,rfl,fun h=>absurd h (by simp),fun _=>⟨_,rfl,_,int_of g1 rfl,_,rfl,_,int_of g1 rfl,?_⟩⟩)
  rw [e1]
  refine Cn.eq (c66 h (a:=p) (n:=(8 - p % 8) % 8) rfl rfl (by omega) (by omega)) ⟨_,rfl,fun h1=>?_,fun h1=>?_⟩
  · have e:rAlign b p=(4,p):=by unfold rAlign; simp only; rw [if_pos (by omega)]
    rw [e]; exact .same h
  · have e:rAlign b p=(0,p+(8 - p % 8) % 8):=by unfold rAlign; simp only; rw [if_neg (by omega)]
    rw [e]
    obtain ⟨M',m1,m2,m3,m4⟩:=h.set hf (p':=p+(8 - p % 8) % 8) (z:=IntKind.i64.wrap ((p:Int)+(((8 - p % 8) % 8:Nat):Int))) (by omega) (by rw [i64w (by omega)]; omega)
    exact ⟨_,rfl,_,int_of g1 rfl,_,rfl,_,m1,rfl,m2,m3,m4⟩
end
theorem u8_one (b:List Nat):(U8 b).all oneCell=true:=by rw [List.all_eq_true]; intro v hv; obtain ⟨x,_,rfl⟩:=List.mem_map.1 hv; rfl
theorem c61' {M:Mem} (hf:M.floor≤M.nb.size) {A:Option Addr} {n c:Nat} {b:List Nat} (hR:Row M A (U8 b)) (hn:b.length=n) (hb:n≤100000000000):
    Cn Try.prog 61 #[.slice A n c] M fun v N=>∃ A' c',v=.slice A' n c'∧Keep M N∧Own (fun j=>M.nb.size≤j) N 5 A' c' (U8 b)∧n≤c':=by
  refine w61_0 ⟨fun h=>?_,fun h=>?_⟩
  · have hA:A=none:=by cases A with | none=>rfl | some a=>simp at h
    subst hA
    have hb0:b=[]:=by have:=hR.none_nil; simpa using this
    subst hb0
    subst hn
    exact ⟨none,0,rfl,.refl _,.inl ⟨rfl,rfl,rfl⟩,Nat.le_refl _⟩
  · obtain ⟨A',c',M',g1,g2,g3,g4⟩:=clone_own el5 hR (n:=n) (c:=c) (by simpa using hn) (u8_one b) hf (by omega)
    exact ⟨_,g1,_,rfl,A',c',rfl,g2,by simpa using g3,g4⟩
theorem c61 {M:Mem} (hf:M.floor≤M.nb.size) {A:Option Addr} {n c:Nat} {b:List Nat} (hR:Row M A (U8 b)) (hn:b.length=n) (hb:n≤4294967296):
    Cn Try.prog 61 #[.slice A n c] M fun v N=>∃ A' c',v=.slice A' n c'∧Keep M N∧Own (fun j=>M.nb.size≤j) N 5 A' c' (U8 b)∧n≤c':=c61' hf hR hn (by omega)
theorem c31 {M:Mem} (hf:M.floor≤M.nb.size) {A:Option Addr} {n c:Nat} {b:List Nat} (hR:Row M A (U8 b)) (hn:b.length=n) (hb:n≤4294967296) (hB:Byt b):
    Cn Try.prog 31 #[.slice A n c] M fun v N=>∃ j,v=PtrB j∧Keep M N∧M.nb.size≤j∧j<N.nb.size∧Rdr (fun i=>M.nb.size≤i∧i<j) N j b 0:=by
  refine w31_0 (Cn.mono (c61 hf hR hn hb) ?_)
  rintro v N ⟨A',c',rfl,hK,hO,hc⟩
  have hN:Chg (fun j=>M.nb.size≤j) N (N.new (.cells #[.slice A' n c',.int .i64 0,.bool true] 101)):=.new _ _
  refine ⟨_,rfl,N.nb.size,rfl,Keep.step hK hN fun j hj=>hj,hK.size,by rw [Mem.new_size]; omega,⟨fun h=>by omega,hB,by omega,Nat.zero_le _,A',c',?_,?_,by omega,hO.none_zero,fun a ha=>?_⟩⟩
  · rw [hn]; exact Mem.new_at _ _
  · exact hO.row.keep (.new _ _)
  · have h1:=hO.in_ a ha
    have h2:a.block / 2<N.nb.size:=by
      rcases hO with ⟨h,_⟩ | ⟨j,cs,sp,h,_,_,h4,_⟩
      · rw [h] at ha; cases ha
      · rw [h] at ha; obtain rfl:=Option.some.inj ha
        show 2*j / 2<_
        have:=lt_of_at h4; omega
    exact .inr ⟨h1.2,h2⟩
end Go.Zt

/- The functions' walks: for each function and each loop a rule of what it comes to. Printed by zw2.py. -/
set_option linter.unusedVariables false
set_option linter.unusedSimpArgs false
set_option maxRecDepth 100000
namespace Go.Zt
open Go Go.Sim Go.Proofs
def K63:List (List It × List Nat):=[([.code [1,1,0,1,0,0],.lp [1,1,0,1,0,0],.blk 0,.code [1,1,1]],[0,3,4]),([.code [1,1,0,1,0,0,1,0,0,1,0,0],.lp [1,1,0,1,0,0,1,0,0,1,0,0],.blk 2,.blk 1,.code [1,1,0,1,0,0,1,1],.lp [1,1,0,1,0,0],.blk 0,.code [1,1,1]],[0,3,4,5])]
def Z63:List (List Nat × List Nat):=[]
theorem b63:Try.prog.funcs[63]?=some Try.f63∧(Orc.tab Try.prog).lookup 63=none∧Try.f63.body=some (codeOf Try.f63):=⟨by kernel_rfl,by kernel_rfl,by kernel_rfl⟩
def A63_1 (Ax0:Option Addr) (lx0 cx0:Nat) (Ax3:Option Addr) (lx3 cx3:Nat) (x4:Int) (M:Mem) (Q:Value→Mem→Prop):Prop:=LvP Try.prog Try.f63 [(0,.slice Ax0 lx0 cx0),(3,.slice Ax3 lx3 cx3),(4,.int .i64 x4)] [.code [1,1,0,1,0,0],.lp [1,1,0,1,0,0],.blk 0,.code [1,1,1]] M Q
def A63_2 (Ax0:Option Addr) (lx0 cx0:Nat) (Ax3:Option Addr) (lx3 cx3:Nat) (x4 x5:Int) (M:Mem) (Q:Value→Mem→Prop):Prop:=LvP Try.prog Try.f63 [(0,.slice Ax0 lx0 cx0),(3,.slice Ax3 lx3 cx3),(4,.int .i64 x4),(5,.int .i64 x5)] [.code [1,1,0,1,0,0,1,0,0,1,0,0],.lp [1,1,0,1,0,0,1,0,0,1,0,0],.blk 2,.blk 1,.code [1,1,0,1,0,0,1,1],.lp [1,1,0,1,0,0],.blk 0,.code [1,1,1]] M Q
theorem w63_0 {Ax0:Option Addr} {lx0 cx0:Nat} {M:Mem} {Q:Value→Mem→Prop} (H:
 ∃ r1',makeP Try.prog 81 (.int .i64 0) (.int .i64 (IntKind.i64.wrap (8*((lx0:Int))))) M=some r1'∧
 ∃ s2',asS r1'.1=some s2'∧
 A63_1 Ax0 lx0 cx0 s2'.1 s2'.2.1 s2'.2.2 0 r1'.2 Q):
 Cn Try.prog 63 #[.slice Ax0 lx0 cx0] M Q:=by
 try simp only [o2,o3] at H
 try simp only [oA,oB,oP,oS,oI,oU,oi,ob,op,os,ox,ot,oq,om] at H
 try simp only [oa,cD,cE,cN] at H
 try simp only [cB] at H
 exact
 Cn.mk (cuts:=K63) (sp:=Z63) 900 b63 rfl rfl H fun G=>by kernel_rfl
theorem w63_1 {Ax0:Option Addr} {lx0 cx0:Nat} {Ax3:Option Addr} {lx3 cx3:Nat} {x4:Int} {M:Mem} {Q:Value→Mem→Prop} (H:
 ((x4<((lx0:Int))→
 A63_2 Ax0 lx0 cx0 Ax3 lx3 cx3 x4 7 M Q)∧
 (¬ (x4<((lx0:Int)))→
 Q (.slice Ax3 lx3 cx3) M))):
 A63_1 Ax0 lx0 cx0 Ax3 lx3 cx3 x4 M Q:=by
 try simp only [o2,o3] at H
 try simp only [oA,oB,oP,oS,oI,oU,oi,ob,op,os,ox,ot,oq,om] at H
 try simp only [oa,cD,cE,cN] at H
 try simp only [cB] at H
 exact
 LvP.mk (cuts:=K63) (sp:=Z63) 900 H fun G=>by kernel_rfl
theorem w63_2 {Ax0:Option Addr} {lx0 cx0:Nat} {Ax3:Option Addr} {lx3 cx3:Nat} {x4 x5:Int} {M:Mem} {Q:Value→Mem→Prop} (H:
 ((x5 ≥ 0→
 ∃ a3',idxA Ax0 lx0 1 x4=some a3'∧
 ∃ x4',M.intAt .u8 a3'.block a3'.off=some x4'∧
 ∃ v5',binV Try.prog .shr 5 3 (.int .u8 x4') (.int .i64 x5)=some v5'∧
 ∃ x6',asI .u8 v5'=some x6'∧
 ∃ r7',appendP Try.prog #[81,81] (.slice Ax3 lx3 cx3) (.slice (some ⟨2*M.nb.size,0,none⟩) 1 1) (M.new (.cells #[.int .i64 ((IntKind.i64.wrap (x6')).tmod 2)] 3))=some r7'∧
 ∃ s8',asS r7'.1=some s8'∧
 A63_2 Ax0 lx0 cx0 s8'.1 s8'.2.1 s8'.2.2 x4 (IntKind.i64.wrap (x5 - 1)) r7'.2 Q)∧
 (¬ (x5 ≥ 0)→
 A63_1 Ax0 lx0 cx0 Ax3 lx3 cx3 (IntKind.i64.wrap (x4+1)) M Q))):
 A63_2 Ax0 lx0 cx0 Ax3 lx3 cx3 x4 x5 M Q:=by
 try simp only [o2,o3] at H
 try simp only [oA,oB,oP,oS,oI,oU,oi,ob,op,os,ox,ot,oq,om] at H
 try simp only [oa,cD,cE,cN] at H
 try simp only [cB] at H
 exact
 LvP.mk (cuts:=K63) (sp:=Z63) 900 H fun G=>by kernel_rfl
def K62:List (List It × List Nat):=[([.code [1,1,0,1,0,0],.lp [1,1,0,1,0,0],.blk 0,.code [1,1,1]],[0,3,4]),([.code [1,1,0,1,0,0,1,0,0,1,0,1,0,0],.lp [1,1,0,1,0,0,1,0,0,1,0,1,0,0],.blk 2,.code [1,1,0,1,0,0,1,0,0,1,1],.blk 1,.code [1,1,0,1,0,0,1,1],.lp [1,1,0,1,0,0],.blk 0,.code [1,1,1]],[0,3,4,5,6]),([.code [1,1,0,1,0,0,1,0,0,1,0,1,0,0,1,1],.lp [1,1,0,1,0,0,1,0,0,1,0,1,0,0],.blk 2,.code [1,1,0,1,0,0,1,0,0,1,1],.blk 1,.code [1,1,0,1,0,0,1,1],.lp [1,1,0,1,0,0],.blk 0,.code [1,1,1]],[0,3,4,5,6])]
def Z62:List (List Nat × List Nat):=[]
theorem b62:Try.prog.funcs[62]?=some Try.f62∧(Orc.tab Try.prog).lookup 62=none∧Try.f62.body=some (codeOf Try.f62):=⟨by kernel_rfl,by kernel_rfl,by kernel_rfl⟩
def A62_1 (Ax0:Option Addr) (lx0 cx0:Nat) (Ax3:Option Addr) (lx3 cx3:Nat) (x4:Int) (M:Mem) (Q:Value→Mem→Prop):Prop:=LvP Try.prog Try.f62 [(0,.slice Ax0 lx0 cx0),(3,.slice Ax3 lx3 cx3),(4,.int .i64 x4)] [.code [1,1,0,1,0,0],.lp [1,1,0,1,0,0],.blk 0,.code [1,1,1]] M Q
def A62_2 (Ax0:Option Addr) (lx0 cx0:Nat) (Ax3:Option Addr) (lx3 cx3:Nat) (x4 x5 x6:Int) (M:Mem) (Q:Value→Mem→Prop):Prop:=LvP Try.prog Try.f62 [(0,.slice Ax0 lx0 cx0),(3,.slice Ax3 lx3 cx3),(4,.int .i64 x4),(5,.int .i64 x5),(6,.int .i64 x6)] [.code [1,1,0,1,0,0,1,0,0,1,0,1,0,0],.lp [1,1,0,1,0,0,1,0,0,1,0,1,0,0],.blk 2,.code [1,1,0,1,0,0,1,0,0,1,1],.blk 1,.code [1,1,0,1,0,0,1,1],.lp [1,1,0,1,0,0],.blk 0,.code [1,1,1]] M Q
def A62_3 (Ax0:Option Addr) (lx0 cx0:Nat) (Ax3:Option Addr) (lx3 cx3:Nat) (x4 x5 x6:Int) (M:Mem) (Q:Value→Mem→Prop):Prop:=LvP Try.prog Try.f62 [(0,.slice Ax0 lx0 cx0),(3,.slice Ax3 lx3 cx3),(4,.int .i64 x4),(5,.int .i64 x5),(6,.int .i64 x6)] [.code [1,1,0,1,0,0,1,0,0,1,0,1,0,0,1,1],.lp [1,1,0,1,0,0,1,0,0,1,0,1,0,0],.blk 2,.code [1,1,0,1,0,0,1,0,0,1,1],.blk 1,.code [1,1,0,1,0,0,1,1],.lp [1,1,0,1,0,0],.blk 0,.code [1,1,1]] M Q
theorem w62_0 {Ax0:Option Addr} {lx0 cx0:Nat} {M:Mem} {Q:Value→Mem→Prop} (H:
 A62_1 Ax0 lx0 cx0 none 0 0 0 M Q):
 Cn Try.prog 62 #[.slice Ax0 lx0 cx0] M Q:=by
 try simp only [o2,o3] at H
 try simp only [oA,oB,oP,oS,oI,oU,oi,ob,op,os,ox,ot,oq,om] at H
 try simp only [oa,cD,cE,cN] at H
 try simp only [cB] at H
 exact
 Cn.mk (cuts:=K62) (sp:=Z62) 900 b62 rfl rfl H fun G=>by kernel_rfl
theorem w62_1 {Ax0:Option Addr} {lx0 cx0:Nat} {Ax3:Option Addr} {lx3 cx3:Nat} {x4:Int} {M:Mem} {Q:Value→Mem→Prop} (H:
 ((x4<((lx0:Int))→
 A62_2 Ax0 lx0 cx0 Ax3 lx3 cx3 x4 0 0 M Q)∧
 (¬ (x4<((lx0:Int)))→
 Q (.slice Ax3 lx3 cx3) M))):
 A62_1 Ax0 lx0 cx0 Ax3 lx3 cx3 x4 M Q:=by
 try simp only [o2,o3] at H
 try simp only [oA,oB,oP,oS,oI,oU,oi,ob,op,os,ox,ot,oq,om] at H
 try simp only [oa,cD,cE,cN] at H
 try simp only [cB] at H
 exact
 LvP.mk (cuts:=K62) (sp:=Z62) 900 H fun G=>by kernel_rfl
theorem w62_2 {Ax0:Option Addr} {lx0 cx0:Nat} {Ax3:Option Addr} {lx3 cx3:Nat} {x4 x5 x6:Int} {M:Mem} {Q:Value→Mem→Prop} (H:
 ((x6<8→
 (((IntKind.i64.wrap (x4+x6))<((lx0:Int))→
 ∃ a1',idxA Ax0 lx0 1 (IntKind.i64.wrap (x4+x6))=some a1'∧
 ∃ x2',M.intAt .i64 a1'.block a1'.off=some x2'∧
 A62_3 Ax0 lx0 cx0 Ax3 lx3 cx3 x4 (IntKind.i64.wrap ((IntKind.i64.wrap (x5*2))+x2')) x6 M Q)∧
 (¬ ((IntKind.i64.wrap (x4+x6))<((lx0:Int)))→
 A62_3 Ax0 lx0 cx0 Ax3 lx3 cx3 x4 (IntKind.i64.wrap (x5*2)) x6 M Q)))∧
 (¬ (x6<8)→
 ∃ r3',appendP Try.prog #[24,24] (.slice Ax3 lx3 cx3) (.slice (some ⟨2*M.nb.size,0,none⟩) 1 1) (M.new (.cells #[.int .u8 (IntKind.u8.wrap (x5))] 5))=some r3'∧
 ∃ s4',asS r3'.1=some s4'∧
 A62_1 Ax0 lx0 cx0 s4'.1 s4'.2.1 s4'.2.2 (IntKind.i64.wrap (x4+8)) r3'.2 Q))):
 A62_2 Ax0 lx0 cx0 Ax3 lx3 cx3 x4 x5 x6 M Q:=by
 try simp only [o2,o3] at H
 try simp only [oA,oB,oP,oS,oI,oU,oi,ob,op,os,ox,ot,oq,om] at H
 try simp only [oa,cD,cE,cN] at H
 try simp only [cB] at H
 exact
 LvP.mk (cuts:=K62) (sp:=Z62) 900 H fun G=>by kernel_rfl
theorem w62_3 {Ax0:Option Addr} {lx0 cx0:Nat} {Ax3:Option Addr} {lx3 cx3:Nat} {x4 x5 x6:Int} {M:Mem} {Q:Value→Mem→Prop} (H:
 A62_2 Ax0 lx0 cx0 Ax3 lx3 cx3 x4 x5 (IntKind.i64.wrap (x6+1)) M Q):
 A62_3 Ax0 lx0 cx0 Ax3 lx3 cx3 x4 x5 x6 M Q:=by
 try simp only [o2,o3] at H
 try simp only [oA,oB,oP,oS,oI,oU,oi,ob,op,os,ox,ot,oq,om] at H
 try simp only [oa,cD,cE,cN] at H
 try simp only [cB] at H
 exact
 LvP.mk (cuts:=K62) (sp:=Z62) 900 H fun G=>by kernel_rfl
def K67:List (List It × List Nat):=[([.code [1,1,0,1,0,0],.lp [1,1,0,1,0,0],.blk 0,.code [1,1,1]],[0,1,2,7,8])]
def Z67:List (List Nat × List Nat):=[]
theorem b67:Try.prog.funcs[67]?=some Try.f67∧(Orc.tab Try.prog).lookup 67=none∧Try.f67.body=some (codeOf Try.f67):=⟨by kernel_rfl,by kernel_rfl,by kernel_rfl⟩
def A67_1 (x0:Option Addr) (x1 x2 x7 x8:Int) (M:Mem) (Q:Value→Mem→Prop):Prop:=LvP Try.prog Try.f67 [(0,.pointer x0),(1,.int .i64 x1),(2,.int .i64 x2),(7,.int .u64 x7),(8,.int .i64 x8)] [.code [1,1,0,1,0,0],.lp [1,1,0,1,0,0],.blk 0,.code [1,1,1]] M Q
theorem w67_0 {x0:Option Addr} {x1 x2:Int} {M:Mem} {Q:Value→Mem→Prop} (H:
 A67_1 x0 x1 x2 0 0 M Q):
 Cn Try.prog 67 #[.pointer x0,.int .i64 x1,.int .i64 x2] M Q:=by
 try simp only [o2,o3] at H
 try simp only [oA,oB,oP,oS,oI,oU,oi,ob,op,os,ox,ot,oq,om] at H
 try simp only [oa,cD,cE,cN] at H
 try simp only [cB] at H
 exact
 Cn.mk (cuts:=K67) (sp:=Z67) 900 b67 rfl rfl H fun G=>by kernel_rfl
theorem w67_1 {x0:Option Addr} {x1 x2 x7 x8:Int} {M:Mem} {Q:Value→Mem→Prop} (H:
 ((x8<x2→
 ∃ a1',x0=some a1'∧
 ∃ s2',M.slAt a1'.block a1'.off=some s2'∧
 ∃ a3',idxA s2'.1 (s2'.2.1) 1 (IntKind.i64.wrap (x1+x8))=some a3'∧
 ∃ x4',M.intAt .i64 a3'.block a3'.off=some x4'∧
 A67_1 x0 x1 x2 (IntKind.u64.wrap ((IntKind.u64.wrap (x7*2))+(IntKind.u64.wrap (x4')))) (IntKind.i64.wrap (x8+1)) M Q)∧
 (¬ (x8<x2)→
 Q (.int .u64 x7) M))):
 A67_1 x0 x1 x2 x7 x8 M Q:=by
 try simp only [o2,o3] at H
 try simp only [oA,oB,oP,oS,oI,oU,oi,ob,op,os,ox,ot,oq,om] at H
 try simp only [oa,cD,cE,cN] at H
 try simp only [cB] at H
 exact
 LvP.mk (cuts:=K67) (sp:=Z67) 900 H fun G=>by kernel_rfl
def K38:List (List It × List Nat):=[]
def Z38:List (List Nat × List Nat):=[]
theorem b38:Try.prog.funcs[38]?=some Try.f38∧(Orc.tab Try.prog).lookup 38=none∧Try.f38.body=some (codeOf Try.f38):=⟨by kernel_rfl,by kernel_rfl,by kernel_rfl⟩
theorem w38_0 {x0:Option Addr} {M:Mem} {Q:Value→Mem→Prop} (H:
 ∃ a1',x0=some a1'∧
 ∃ s2',M.slAt a1'.block a1'.off=some s2'∧
 ∃ a3',x0=some a3'∧
 ∃ x4',M.intAt .i64 a3'.block (a3'.off+1)=some x4'∧
 Q (.int .i64 (IntKind.i64.wrap (((s2'.2.1:Int)) - x4'))) M):
 Cn Try.prog 38 #[.pointer x0] M Q:=by
 try simp only [o2,o3] at H
 try simp only [oA,oB,oP,oS,oI,oU,oi,ob,op,os,ox,ot,oq,om] at H
 try simp only [oa,cD,cE,cN] at H
 try simp only [cB] at H
 exact
 Cn.mk (cuts:=K38) (sp:=Z38) 900 b38 rfl rfl H fun G=>by kernel_rfl
def K34:List (List It × List Nat):=[([.code [1,0,1],.code [1,1]],[0,1,12])]
def Z34:List (List Nat × List Nat):=[]
theorem b34:Try.prog.funcs[34]?=some Try.f34∧(Orc.tab Try.prog).lookup 34=none∧Try.f34.body=some (codeOf Try.f34):=⟨by kernel_rfl,by kernel_rfl,by kernel_rfl⟩
def A34_1 (x0:Option Addr) (x1:Int) (x12:Bool) (M:Mem) (Q:Value→Mem→Prop):Prop:=LvP Try.prog Try.f34 [(0,.pointer x0),(1,.int .i64 x1),(12,.bool x12)] [.code [1,0,1],.code [1,1]] M Q
theorem w34_0 {x0:Option Addr} {x1:Int} {M:Mem} {Q:Value→Mem→Prop} (H:
 ((x1<0→
 A34_1 x0 x1 true M Q)∧
 (¬ (x1<0)→
 A34_1 x0 x1 (decide (x1 > 32)) M Q))):
 Cn Try.prog 34 #[.pointer x0,.int .i64 x1] M Q:=by
 try simp only [o2,o3] at H
 try simp only [oA,oB,oP,oS,oI,oU,oi,ob,op,os,ox,ot,oq,om] at H
 try simp only [oa,cD,cE,cN] at H
 try simp only [cB] at H
 exact
 Cn.mk (cuts:=K34) (sp:=Z34) 900 b34 rfl rfl H fun G=>by kernel_rfl
theorem w34_1 {x0:Option Addr} {x1:Int} {x12:Bool} {M:Mem} {Q:Value→Mem→Prop} (H:
 ((x12=true→
 Q (.tuple #[.int .u32 0,.int .i64 2]) M)∧
 (x12=false→
 Cn Try.prog 38 #[.pointer x0] M fun v1' N1'=>
 ∃ x2',asI .i64 v1'=some x2'∧
 ((x1 > x2'→
 Q (.tuple #[.int .u32 0,.int .i64 3]) N1')∧
 (¬ (x1 > x2')→
 ∃ a3',x0=some a3'∧
 ∃ x4',N1'.intAt .i64 a3'.block (a3'.off+1)=some x4'∧
 Cn Try.prog 67 #[.pointer x0,.int .i64 x4',.int .i64 x1] N1' fun v5' N5'=>
 ∃ x6',asI .u64 v5'=some x6'∧
 ∃ a7',x0=some a7'∧
 ∃ x8',N5'.intAt .i64 a7'.block (a7'.off+1)=some x8'∧
 ∃ a9',x0=some a9'∧
 ∃ M10',N5'.put a9'.block (a9'.off+1) (.int .i64 (IntKind.i64.wrap (x8'+x1)))=some M10'∧
 Q (.tuple #[.int .u32 (IntKind.u32.wrap (x6')),.int .i64 0]) M10'))))):
 A34_1 x0 x1 x12 M Q:=by
 try simp only [o2,o3] at H
 try simp only [oA,oB,oP,oS,oI,oU,oi,ob,op,os,ox,ot,oq,om] at H
 try simp only [oa,cD,cE,cN] at H
 try simp only [cB] at H
 exact
 LvP.mk (cuts:=K34) (sp:=Z34) 900 H fun G=>by kernel_rfl
def K81:List (List It × List Nat):=[([.code [1,0,1],.code [1,1]],[0,1,12])]
def Z81:List (List Nat × List Nat):=[]
theorem b81:Try.prog.funcs[81]?=some Try.f81∧(Orc.tab Try.prog).lookup 81=none∧Try.f81.body=some (codeOf Try.f81):=⟨by kernel_rfl,by kernel_rfl,by kernel_rfl⟩
def A81_1 (x0:Option Addr) (x1:Int) (x12:Bool) (M:Mem) (Q:Value→Mem→Prop):Prop:=LvP Try.prog Try.f81 [(0,.pointer x0),(1,.int .i64 x1),(12,.bool x12)] [.code [1,0,1],.code [1,1]] M Q
theorem w81_0 {x0:Option Addr} {x1:Int} {M:Mem} {Q:Value→Mem→Prop} (H:
 ((x1<1→
 A81_1 x0 x1 true M Q)∧
 (¬ (x1<1)→
 A81_1 x0 x1 (decide (x1 > 31)) M Q))):
 Cn Try.prog 81 #[.pointer x0,.int .i64 x1] M Q:=by
 try simp only [o2,o3] at H
 try simp only [oA,oB,oP,oS,oI,oU,oi,ob,op,os,ox,ot,oq,om] at H
 try simp only [oa,cD,cE,cN] at H
 try simp only [cB] at H
 exact
 Cn.mk (cuts:=K81) (sp:=Z81) 900 b81 rfl rfl H fun G=>by kernel_rfl
theorem w81_1 {x0:Option Addr} {x1:Int} {x12:Bool} {M:Mem} {Q:Value→Mem→Prop} (H:
 ((x12=true→
 Q (.tuple #[.int .i32 0,.int .i64 2]) M)∧
 (x12=false→
 Cn Try.prog 38 #[.pointer x0] M fun v1' N1'=>
 ∃ x2',asI .i64 v1'=some x2'∧
 (((IntKind.i64.wrap (x1+1)) > x2'→
 Q (.tuple #[.int .i32 0,.int .i64 3]) N1')∧
 (¬ ((IntKind.i64.wrap (x1+1)) > x2')→
 ∃ a3',x0=some a3'∧
 ∃ x4',N1'.intAt .i64 a3'.block (a3'.off+1)=some x4'∧
 Cn Try.prog 67 #[.pointer x0,.int .i64 (IntKind.i64.wrap (x4'+1)),.int .i64 x1] N1' fun v5' N5'=>
 ∃ x6',asI .u64 v5'=some x6'∧
 ∃ a7',x0=some a7'∧
 ∃ s8',N5'.slAt a7'.block a7'.off=some s8'∧
 ∃ a9',x0=some a9'∧
 ∃ x10',N5'.intAt .i64 a9'.block (a9'.off+1)=some x10'∧
 ∃ a11',idxA s8'.1 (s8'.2.1) 1 x10'=some a11'∧
 ∃ x12',N5'.intAt .i64 a11'.block a11'.off=some x12'∧
 ((x12'=1→
 (((IntKind.i64.wrap (x6'))=0→
 Q (.tuple #[.int .i32 0,.int .i64 4]) N5')∧
 ((IntKind.i64.wrap (x6'))≠0→
 ∃ a13',x0=some a13'∧
 ∃ x14',N5'.intAt .i64 a13'.block (a13'.off+1)=some x14'∧
 ∃ a15',x0=some a15'∧
 ∃ M16',N5'.put a15'.block (a15'.off+1) (.int .i64 (IntKind.i64.wrap ((IntKind.i64.wrap (x14'+x1))+1)))=some M16'∧
 Q (.tuple #[.int .i32 (IntKind.i32.wrap ((IntKind.i64.wrap (0 - (IntKind.i64.wrap (x6')))))),.int .i64 0]) M16')))∧
 (x12'≠1→
 ∃ a17',x0=some a17'∧
 ∃ x18',N5'.intAt .i64 a17'.block (a17'.off+1)=some x18'∧
 ∃ a19',x0=some a19'∧
 ∃ M20',N5'.put a19'.block (a19'.off+1) (.int .i64 (IntKind.i64.wrap ((IntKind.i64.wrap (x18'+x1))+1)))=some M20'∧
 Q (.tuple #[.int .i32 (IntKind.i32.wrap ((IntKind.i64.wrap (x6')))),.int .i64 0]) M20'))))))):
 A81_1 x0 x1 x12 M Q:=by
 try simp only [o2,o3] at H
 try simp only [oA,oB,oP,oS,oI,oU,oi,ob,op,os,ox,ot,oq,om] at H
 try simp only [oa,cD,cE,cN] at H
 try simp only [cB] at H
 exact
 LvP.mk (cuts:=K81) (sp:=Z81) 900 H fun G=>by kernel_rfl
def K32:List (List It × List Nat):=[]
def Z32:List (List Nat × List Nat):=[]
theorem b32:Try.prog.funcs[32]?=some Try.f32∧(Orc.tab Try.prog).lookup 32=none∧Try.f32.body=some (codeOf Try.f32):=⟨by kernel_rfl,by kernel_rfl,by kernel_rfl⟩
theorem w32_0 {Ax0:Option Addr} {lx0 cx0:Nat} {M:Mem} {Q:Value→Mem→Prop} (H:
 Cn Try.prog 63 #[.slice Ax0 lx0 cx0] M fun v1' N1'=>
 ∃ s2',asS v1'=some s2'∧
 Q (.pointer (some ⟨2*N1'.nb.size,0,none⟩)) (N1'.new (.cells #[.slice s2'.1 (s2'.2.1) (s2'.2.2),.int .i64 0] 104))):
 Cn Try.prog 32 #[.slice Ax0 lx0 cx0] M Q:=by
 try simp only [o2,o3] at H
 try simp only [oA,oB,oP,oS,oI,oU,oi,ob,op,os,ox,ot,oq,om] at H
 try simp only [oa,cD,cE,cN] at H
 try simp only [cB] at H
 exact
 Cn.mk (cuts:=K32) (sp:=Z32) 900 b32 rfl rfl H fun G=>by kernel_rfl
def K49:List (List It × List Nat):=[([.code [1,0,0],.lp [1,0,0],.blk 0],[0,1,6])]
def Z49:List (List Nat × List Nat):=[]
theorem b49:Try.prog.funcs[49]?=some Try.f49∧(Orc.tab Try.prog).lookup 49=none∧Try.f49.body=some (codeOf Try.f49):=⟨by kernel_rfl,by kernel_rfl,by kernel_rfl⟩
def A49_1 (x0:Option Addr) (x1 x6:Int) (M:Mem) (Q:Value→Mem→Prop):Prop:=LvP Try.prog Try.f49 [(0,.pointer x0),(1,.int .u64 x1),(6,.int .i64 x6)] [.code [1,0,0],.lp [1,0,0],.blk 0] M Q
theorem w49_0 {x0:Option Addr} {x1 x2:Int} {M:Mem} {Q:Value→Mem→Prop} (H:
 A49_1 x0 x1 (IntKind.i64.wrap (x2 - 1)) M Q):
 Cn Try.prog 49 #[.pointer x0,.int .u64 x1,.int .i64 x2] M Q:=by
 try simp only [o2,o3] at H
 try simp only [oA,oB,oP,oS,oI,oU,oi,ob,op,os,ox,ot,oq,om] at H
 try simp only [oa,cD,cE,cN] at H
 try simp only [cB] at H
 exact
 Cn.mk (cuts:=K49) (sp:=Z49) 900 b49 rfl rfl H fun G=>by kernel_rfl
theorem w49_1 {x0:Option Addr} {x1 x6:Int} {M:Mem} {Q:Value→Mem→Prop} (H:
 ((x6 ≥ 0→
 ∃ a1',x0=some a1'∧
 ∃ s2',M.slAt a1'.block a1'.off=some s2'∧
 ∃ v3',binV Try.prog .shr 86 3 (.int .u64 x1) (.int .i64 x6)=some v3'∧
 ∃ x4',asI .u64 v3'=some x4'∧
 ∃ r5',appendP Try.prog #[81,81] (.slice s2'.1 (s2'.2.1) (s2'.2.2)) (.slice (some ⟨2*M.nb.size,0,none⟩) 1 1) (M.new (.cells #[.int .i64 ((IntKind.i64.wrap (x4')).tmod 2)] 3))=some r5'∧
 ∃ s6',asS r5'.1=some s6'∧
 ∃ a7',x0=some a7'∧
 ∃ M8',r5'.2.put a7'.block a7'.off (.slice s6'.1 (s6'.2.1) (s6'.2.2))=some M8'∧
 A49_1 x0 x1 (IntKind.i64.wrap (x6 - 1)) M8' Q)∧
 (¬ (x6 ≥ 0)→
 Q (.tuple #[]) M))):
 A49_1 x0 x1 x6 M Q:=by
 try simp only [o2,o3] at H
 try simp only [oA,oB,oP,oS,oI,oU,oi,ob,op,os,ox,ot,oq,om] at H
 try simp only [oa,cD,cE,cN] at H
 try simp only [cB] at H
 exact
 LvP.mk (cuts:=K49) (sp:=Z49) 900 H fun G=>by kernel_rfl
def K23:List (List It × List Nat):=[([.code [1,0,1],.code [1,1]],[0,1,2,19])]
def Z23:List (List Nat × List Nat):=[]
theorem b23:Try.prog.funcs[23]?=some Try.f23∧(Orc.tab Try.prog).lookup 23=none∧Try.f23.body=some (codeOf Try.f23):=⟨by kernel_rfl,by kernel_rfl,by kernel_rfl⟩
def A23_1 (x0:Option Addr) (x1 x2:Int) (x19:Bool) (M:Mem) (Q:Value→Mem→Prop):Prop:=LvP Try.prog Try.f23 [(0,.pointer x0),(1,.int .u32 x1),(2,.int .i64 x2),(19,.bool x19)] [.code [1,0,1],.code [1,1]] M Q
theorem w23_0 {x0:Option Addr} {x1 x2:Int} {M:Mem} {Q:Value→Mem→Prop} (H:
 ((x2<0→
 A23_1 x0 x1 x2 true M Q)∧
 (¬ (x2<0)→
 ((x2 > 32→
 A23_1 x0 x1 x2 true M Q)∧
 (¬ (x2 > 32)→
 ∃ v1',binV Try.prog .shl 86 3 (.int .u64 1) (.int .i64 x2)=some v1'∧
 ∃ x2',asI .u64 v1'=some x2'∧
 A23_1 x0 x1 x2 (decide ((IntKind.u64.wrap (x1)) ≥ x2')) M Q))))):
 Cn Try.prog 23 #[.pointer x0,.int .u32 x1,.int .i64 x2] M Q:=by
 try simp only [o2,o3] at H
 try simp only [oA,oB,oP,oS,oI,oU,oi,ob,op,os,ox,ot,oq,om] at H
 try simp only [oa,cD,cE,cN] at H
 try simp only [cB] at H
 exact
 Cn.mk (cuts:=K23) (sp:=Z23) 900 b23 rfl rfl H fun G=>by kernel_rfl
theorem w23_1 {x0:Option Addr} {x1 x2:Int} {x19:Bool} {M:Mem} {Q:Value→Mem→Prop} (H:
 ((x19=true→
 Q (.int .i64 2) M)∧
 (x19=false→
 Cn Try.prog 49 #[.pointer x0,.int .u64 (IntKind.u64.wrap (x1)),.int .i64 x2] M fun v3' N3'=>
 Q (.int .i64 0) N3'))):
 A23_1 x0 x1 x2 x19 M Q:=by
 try simp only [o2,o3] at H
 try simp only [oA,oB,oP,oS,oI,oU,oi,ob,op,os,ox,ot,oq,om] at H
 try simp only [oa,cD,cE,cN] at H
 try simp only [cB] at H
 exact
 LvP.mk (cuts:=K23) (sp:=Z23) 900 H fun G=>by kernel_rfl
def K53:List (List It × List Nat):=[([.code [1,1,1,0,1],.code [1,1,1,1]],[0,1,2,7,25])]
def Z53:List (List Nat × List Nat):=[]
theorem b53:Try.prog.funcs[53]?=some Try.f53∧(Orc.tab Try.prog).lookup 53=none∧Try.f53.body=some (codeOf Try.f53):=⟨by kernel_rfl,by kernel_rfl,by kernel_rfl⟩
def A53_1 (x0:Option Addr) (x1 x2 x7:Int) (x25:Bool) (M:Mem) (Q:Value→Mem→Prop):Prop:=LvP Try.prog Try.f53 [(0,.pointer x0),(1,.int .i32 x1),(2,.int .i64 x2),(7,.int .i64 x7),(25,.bool x25)] [.code [1,1,1,0,1],.code [1,1,1,1]] M Q
theorem w53_0 {x0:Option Addr} {x1 x2:Int} {M:Mem} {Q:Value→Mem→Prop} (H:
 (((IntKind.i64.wrap (x1))<0→
 ((x2<1→
 A53_1 x0 x1 x2 (IntKind.i64.wrap (0 - (IntKind.i64.wrap (x1)))) true M Q)∧
 (¬ (x2<1)→
 ((x2 > 31→
 A53_1 x0 x1 x2 (IntKind.i64.wrap (0 - (IntKind.i64.wrap (x1)))) true M Q)∧
 (¬ (x2 > 31)→
 ∃ v1',binV Try.prog .shl 2 3 (.int .i64 1) (.int .i64 x2)=some v1'∧
 ∃ x2',asI .i64 v1'=some x2'∧
 A53_1 x0 x1 x2 (IntKind.i64.wrap (0 - (IntKind.i64.wrap (x1)))) (decide ((IntKind.i64.wrap (0 - (IntKind.i64.wrap (x1)))) ≥ x2')) M Q)))))∧
 (¬ ((IntKind.i64.wrap (x1))<0)→
 ((x2<1→
 A53_1 x0 x1 x2 (IntKind.i64.wrap (x1)) true M Q)∧
 (¬ (x2<1)→
 ((x2 > 31→
 A53_1 x0 x1 x2 (IntKind.i64.wrap (x1)) true M Q)∧
 (¬ (x2 > 31)→
 ∃ v3',binV Try.prog .shl 2 3 (.int .i64 1) (.int .i64 x2)=some v3'∧
 ∃ x4',asI .i64 v3'=some x4'∧
 A53_1 x0 x1 x2 (IntKind.i64.wrap (x1)) (decide ((IntKind.i64.wrap (x1)) ≥ x4')) M Q))))))):
 Cn Try.prog 53 #[.pointer x0,.int .i32 x1,.int .i64 x2] M Q:=by
 try simp only [o2,o3] at H
 try simp only [oA,oB,oP,oS,oI,oU,oi,ob,op,os,ox,ot,oq,om] at H
 try simp only [oa,cD,cE,cN] at H
 try simp only [cB] at H
 exact
 Cn.mk (cuts:=K53) (sp:=Z53) 900 b53 rfl rfl H fun G=>by kernel_rfl
theorem w53_1 {x0:Option Addr} {x1 x2 x7:Int} {x25:Bool} {M:Mem} {Q:Value→Mem→Prop} (H:
 ((x25=true→
 Q (.int .i64 2) M)∧
 (x25=false→
 ((x1<0→
 Cn Try.prog 49 #[.pointer x0,.int .u64 1,.int .i64 1] M fun v5' N5'=>
 Cn Try.prog 49 #[.pointer x0,.int .u64 (IntKind.u64.wrap (x7)),.int .i64 x2] N5' fun v6' N6'=>
 Q (.int .i64 0) N6')∧
 (¬ (x1<0)→
 Cn Try.prog 49 #[.pointer x0,.int .u64 0,.int .i64 1] M fun v7' N7'=>
 Cn Try.prog 49 #[.pointer x0,.int .u64 (IntKind.u64.wrap (x7)),.int .i64 x2] N7' fun v8' N8'=>
 Q (.int .i64 0) N8'))))):
 A53_1 x0 x1 x2 x7 x25 M Q:=by
 try simp only [o2,o3] at H
 try simp only [oA,oB,oP,oS,oI,oU,oi,ob,op,os,ox,ot,oq,om] at H
 try simp only [oa,cD,cE,cN] at H
 try simp only [cB] at H
 exact
 LvP.mk (cuts:=K53) (sp:=Z53) 900 H fun G=>by kernel_rfl
def K20:List (List It × List Nat):=[]
def Z20:List (List Nat × List Nat):=[]
theorem b20:Try.prog.funcs[20]?=some Try.f20∧(Orc.tab Try.prog).lookup 20=none∧Try.f20.body=some (codeOf Try.f20):=⟨by kernel_rfl,by kernel_rfl,by kernel_rfl⟩
theorem w20_0 {M:Mem} {Q:Value→Mem→Prop} (H:
 Q (.pointer (some ⟨2*M.nb.size,0,none⟩)) (M.new (.cells #[.slice none 0 0] 83))):
 Cn Try.prog 20 #[] M Q:=by
 try simp only [o2,o3] at H
 try simp only [oA,oB,oP,oS,oI,oU,oi,ob,op,os,ox,ot,oq,om] at H
 try simp only [oa,cD,cE,cN] at H
 try simp only [cB] at H
 exact
 Cn.mk (cuts:=K20) (sp:=Z20) 900 b20 rfl rfl H fun G=>by kernel_rfl
def K29:List (List It × List Nat):=[]
def Z29:List (List Nat × List Nat):=[]
theorem b29:Try.prog.funcs[29]?=some Try.f29∧(Orc.tab Try.prog).lookup 29=none∧Try.f29.body=some (codeOf Try.f29):=⟨by kernel_rfl,by kernel_rfl,by kernel_rfl⟩
theorem w29_0 {x0:Option Addr} {M:Mem} {Q:Value→Mem→Prop} (H:
 ∃ a1',x0=some a1'∧
 ∃ s2',M.slAt a1'.block a1'.off=some s2'∧
 Cn Try.prog 62 #[.slice s2'.1 (s2'.2.1) (s2'.2.2)] M fun v3' N3'=>
 ∃ s4',asS v3'=some s4'∧
 Q (.slice s4'.1 (s4'.2.1) (s4'.2.2)) N3'):
 Cn Try.prog 29 #[.pointer x0] M Q:=by
 try simp only [o2,o3] at H
 try simp only [oA,oB,oP,oS,oI,oU,oi,ob,op,os,ox,ot,oq,om] at H
 try simp only [oa,cD,cE,cN] at H
 try simp only [cB] at H
 exact
 Cn.mk (cuts:=K29) (sp:=Z29) 900 b29 rfl rfl H fun G=>by kernel_rfl
end Go.Zt

/- Layer 1: the document's readers. -/
set_option linter.unusedSimpArgs false
set_option linter.unusedVariables false
namespace Go.Zt
open Go Go.Sim Go.Proofs Go.RowKit
abbrev N64 (l:List Nat):List Value:=l.map fun x=>Value.int .i64 (x:Nat)
theorem el3:ElemS Try.prog 81 3 1 8 (.int .i64 0):=⟨by kernel_rfl,by kernel_rfl,rfl,by decide,by decide⟩
theorem el3':Elem Try.prog 81 3 8 (.int .i64 0):=⟨by kernel_rfl,by kernel_rfl,rfl,by decide,by decide⟩
def bitsOf (b:List Nat):List Nat:=(List.range (8*b.length)).map (bitOf b)
theorem bitsOf_at (b:List Nat) {i:Nat} (h:i<8*b.length):(bitsOf b)[i]?=some (bitOf b i):=by simp [bitsOf,h]
structure RefR (S:Nat→Prop) (M:Mem) (j:Nat) (b:List Nat) (p:Nat):Prop where
  out:¬ S j
  len:b.length≤4294967296
  pos:p≤8*b.length
  ex:∃ A c,M.nb[j]?=some (.cells #[.slice A (8*b.length) c,.int .i64 (p:Nat)] 104)∧Row M A (N64 (bitsOf b))∧8*b.length≤c∧(A=none→c=0)∧∀ a,A=some a→a.block % 2=1∨S (a.block / 2)
theorem RefR.chg {S T:Nat→Prop} {M M':Mem} {j:Nat} {b:List Nat} {p:Nat} (h:RefR S M j b p) (k:Chg T M M') (hj:¬ T j) (hS:∀ i,S i→¬ T i):RefR S M' j b p:=by
  obtain ⟨A,c,h1,h2,h3,h0,h4⟩:=h.ex
  exact ⟨h.out,h.len,h.pos,A,c,at_chg h1 k hj,h2.chg k fun a ha=>(h4 a ha).imp id (hS _),h3,h0,h4⟩
theorem RefR.keep {S:Nat→Prop} {M M':Mem} {j:Nat} {b:List Nat} {p:Nat} (h:RefR S M j b p) (k:Keep M M'):RefR S M' j b p:=h.chg k (fun x=>x) fun _ _ x=>x
theorem RefR.set {S:Nat→Prop} {M:Mem} {j:Nat} {b:List Nat} {p:Nat} (h:RefR S M j b p) (hf:M.floor≤j) {p':Nat} (hp:p'≤8*b.length) {z:Int} (hz:z=(p':Int)):
    ∃ M',M.put (2*j) 1 (.int .i64 z)=some M'∧Chg (· = j) M M'∧M'.nb.size=M.nb.size∧RefR S M' j b p':=by
  subst hz
  obtain ⟨A,c,h1,h2,h3,h0,h4⟩:=h.ex
  have hC:Chg (· = j) M (M.upd j (.cells (#[.slice A (8*b.length) c,.int .i64 (p:Nat)].setIfInBounds 1 (.int .i64 (p':Nat))) 104)):=upd_chg rfl
  exact ⟨_,put_of h1 hf (by simp) rfl,hC,upd_size _,h.out,h.len,hp,A,c,upd_at (lt_of_at h1),h2.chg hC fun a ha=>(h4 a ha).imp id fun hs e=>h.out (e ▸ hs),h3,h0,h4⟩
def RfR (S:Nat→Prop) (M:Mem) (j:Nat) (b:List Nat) (u:Value) (p':Nat):Value→Mem→Prop:=fun v N=>v=u∧Chg (· = j) M N∧N.nb.size=M.nb.size∧RefR S N j b p'
section
variable {S:Nat→Prop} {M:Mem} {j:Nat} {b:List Nat} {p:Nat}
theorem RfR.same (h:RefR S M j b p) {u:Value}:RfR S M j b u p u M:=⟨rfl,.refl _,rfl,h⟩
theorem c38 (h:RefR S M j b p):Cn Try.prog 38 #[PtrB j] M fun v N=>v=.int .i64 ((8*b.length - p:Nat):Int)∧N=M:=by
  obtain ⟨A,c,h1,h2,h3,h0,h4⟩:=h.ex
  have hl:=h.len
  have hp:=h.pos
  refine w38_0 ⟨_,rfl,_,sl_of h1 rfl,_,rfl,_,int_of h1 rfl,?_,rfl⟩
  show Value.int .i64 (IntKind.i64.wrap (((8*b.length:Nat):Int) - (p:Int)))=_
  rw [i64w (by omega)]
  congr 1; omega
theorem RefR.bit (h:RefR S M j b p) {i:Nat} {z:Int} (hz:z=(i:Int)) (hi:i<8*b.length):
    ∃ A c,M.slAt (2*j) 0=some (A,8*b.length,c)∧∃ a,idxA A (8*b.length) 1 z=some a∧M.intAt .i64 a.block a.off=some ((bitOf b i:Nat):Int):=by
  obtain ⟨A,c,h1,h2,h3,h0,h4⟩:=h.ex
  obtain ⟨a,i1,i2⟩:=h2.int1 (n:=8*b.length) (i:=i) (z:=z) (k:=.i64) (x:=(bitOf b i:Nat)) hz hi (by rw [List.getElem?_map,bitsOf_at b hi]; rfl)
  exact ⟨A,c,sl_of h1 rfl,a,i1,i2⟩
theorem RefR.at (h:RefR S M j b p):M.intAt .i64 (2*j) 1=some ((p:Nat):Int):=by
  obtain ⟨A,c,h1,h2,h3,h0,h4⟩:=h.ex
  exact int_of h1 rfl
theorem pow33 {n:Nat} (h:n≤33):2 ^ n≤8589934592:=Nat.pow_le_pow_right (n:=2) (by decide) h
theorem c67_loop (h:RefR S M j b p) {a n:Nat} (hn:n≤33) (ha:a+n≤8*b.length) {Q:Value→Mem→Prop} (hQ:Q (.int .u64 (numb (bitOf b) a n:Nat)) M):
    ∀ (k i:Nat),i+k=n→A67_1 (some ⟨2*j,0,none⟩) a n (numb (bitOf b) a i:Nat) i M Q
  | 0,i,hi=>by
    refine w67_1 ⟨fun h=>by omega,fun _=>?_⟩
    obtain rfl:i=n:=by omega
    exact hQ
  | k+1,i,hi=>by
    have hl:=h.len
    obtain ⟨A,c,s1,x,i1,i2⟩:=h.bit (i:=a+i) (z:=IntKind.i64.wrap ((a:Int)+i)) (by rw [i64w (by omega)]; omega) (by omega)
    refine w67_1 ⟨fun _=>⟨_,rfl,_,s1,_,i1,_,i2,?_⟩,fun h=>by omega⟩
    have h1:=numb_lt (bitOf_lt b) a i
    have h2:=bitOf_lt b (a+i)
    have h3:=pow33 (n:=i) (by omega)
    rw [u64w (x:=((numb (bitOf b) a i:Nat):Int)*2) (by omega),u64w (x:=((bitOf b (a+i):Nat):Int)) (by omega),u64w (by omega),i64w (by omega),show ((i:Int)+1)=((i+1:Nat):Int) by omega,
      show ((numb (bitOf b) a i:Nat):Int)*2+((bitOf b (a+i):Nat):Int)=((numb (bitOf b) a (i+1):Nat):Int) by simp only [numb]; omega]
    exact c67_loop h hn ha hQ k (i+1) (by omega)
theorem c67 (h:RefR S M j b p) {a n:Nat} {z y:Int} (hz:z=(a:Int)) (hy:y=(n:Int)) (hn:n≤33) (ha:a+n≤8*b.length):
    Cn Try.prog 67 #[PtrB j,.int .i64 z,.int .i64 y] M fun v N=>v=.int .u64 (numb (bitOf b) a n:Nat)∧N=M:=by
  subst hz hy
  exact w67_0 (c67_loop h hn ha ⟨rfl,rfl⟩ n 0 (by omega))
theorem c34 (h:RefR S M j b p) (hf:M.floor≤j) (n:Int):
    Cn Try.prog 34 #[PtrB j,.int .i64 n] M (RfR S M j b (.tuple #[.int .u32 ((rFixed b p n).1:Nat),.int .i64 ((rFixed b p n).2.1:Nat)]) (rFixed b p n).2.2):=by
  have hp:=h.pos
  have hl:=h.len
  by_cases h0:n<0∨n > 32
  · have e:rFixed b p n=(0,2,p):=by unfold rFixed; rw [if_pos h0]
    rw [e]
    have key:A34_1 (some ⟨2*j,0,none⟩) n true M (RfR S M j b (.tuple #[.int .u32 ((0:Nat):Int),.int .i64 ((2:Nat):Int)]) p):=w34_1 ⟨fun _=>.same h,fun h=>(by cases h)⟩
    refine w34_0 ⟨fun _=>key,fun h1=>?_⟩
    rw [decide_eq_true (show n > 32 by omega)]; exact key
  · refine w34_0 ⟨fun h=>by omega,fun _=>?_⟩
    rw [decide_eq_false (show ¬ n > 32 by omega)]
    refine w34_1 ⟨fun h=>(by cases h),fun _=>Cn.eq (c38 h) ⟨_,rfl,fun h1=>?_,fun h1=>?_⟩⟩
    · have e:rFixed b p n=(0,3,p):=by unfold rFixed; rw [if_neg h0,if_pos (by omega)]
      rw [e]; exact .same h
    · have e:rFixed b p n=(numb (bitOf b) p n.toNat,0,p+n.toNat):=by unfold rFixed; rw [if_neg h0,if_neg (by omega)]
      rw [e]
      obtain ⟨M',m1,m2,m3,m4⟩:=h.set hf (p':=p+n.toNat) (z:=IntKind.i64.wrap ((p:Int)+n)) (by omega) (by rw [i64w (by omega)]; omega)
      refine ⟨_,rfl,_,h.at,Cn.eq (c67 h (a:=p) (n:=n.toNat) rfl (by omega) (by omega) (by omega)) ⟨_,rfl,_,rfl,_,h.at,_,rfl,_,m1,?_,m2,m3,m4⟩⟩
      have hlt:=numb_lt (bitOf_lt b) p n.toNat
      have h32:=pow32 (n:=n.toNat) (by omega)
      rw [u32w (by omega)]; rfl
theorem c81 (h:RefR S M j b p) (hf:M.floor≤j) (n:Int):
    Cn Try.prog 81 #[PtrB j,.int .i64 n] M (RfR S M j b (.tuple #[.int .i32 (rSigned b p n).1,.int .i64 ((rSigned b p n).2.1:Nat)]) (rSigned b p n).2.2):=by
  have hp:=h.pos
  have hl:=h.len
  by_cases h0:n<1∨n > 31
  · have e:rSigned b p n=(0,2,p):=by unfold rSigned; rw [if_pos h0]
    rw [e]
    have key:A81_1 (some ⟨2*j,0,none⟩) n true M (RfR S M j b (.tuple #[.int .i32 0,.int .i64 ((2:Nat):Int)]) p):=w81_1 ⟨fun _=>.same h,fun h=>(by cases h)⟩
    refine w81_0 ⟨fun _=>key,fun h1=>?_⟩
    rw [decide_eq_true (show n > 31 by omega)]; exact key
  · refine w81_0 ⟨fun h=>by omega,fun _=>?_⟩
    rw [decide_eq_false (show ¬ n > 31 by omega)]
    have e1:IntKind.i64.wrap (n+1)=n+1:=i64w (by omega)
    refine w81_1 ⟨fun h=>(by cases h),fun _=>Cn.eq (c38 h) ⟨_,rfl,fun h1=>?_,fun h1=>?_⟩⟩
    · rw [e1] at h1
      have e:rSigned b p n=(0,3,p):=by unfold rSigned; rw [if_neg h0,if_pos (by omega)]
      rw [e]; exact .same h
    · rw [e1] at h1
      have hlt:=numb_lt (bitOf_lt b) (p+1) n.toNat
      have h31:=pow31 (n:=n.toNat) (by omega)
      refine ⟨_,rfl,_,h.at,Cn.eq (c67 h (a:=p+1) (n:=n.toNat) (by rw [i64w (by omega)]; omega) (by omega) (by omega) (by omega)) ⟨_,rfl,?_⟩⟩
      have e2:IntKind.i64.wrap ((numb (bitOf b) (p+1) n.toNat:Nat):Int)=(numb (bitOf b) (p+1) n.toNat:Nat):=i64w (by omega)
      rw [e2]
      obtain ⟨A,c,s1,x,i1,i2⟩:=h.bit (i:=p) rfl (by omega)
      obtain ⟨M',m1,m2,m3,m4⟩:=h.set hf (p':=p+(n.toNat+1)) (z:=IntKind.i64.wrap (IntKind.i64.wrap ((p:Int)+n)+1)) (by omega) (by rw [i64w (x:=(p:Int)+n) (by omega),i64w (by omega)]; omega)
      refine ⟨_,rfl,_,s1,_,rfl,_,h.at,_,i1,_,i2,fun h2=>⟨fun h3=>?_,fun h3=>⟨_,rfl,_,h.at,_,rfl,_,m1,?_⟩⟩,fun h2=>⟨_,rfl,_,h.at,_,rfl,_,m1,?_⟩⟩
      · have e:rSigned b p n=(0,4,p):=by unfold rSigned; rw [if_neg h0,if_neg (by omega),if_pos (by omega),if_pos (by omega)]
        rw [e]; exact .same h
      · have e:rSigned b p n=(-((numb (bitOf b) (p+1) n.toNat:Nat):Int),0,p+(n.toNat+1)):=by unfold rSigned; rw [if_neg h0,if_neg (by omega),if_pos (by omega),if_neg (by omega)]
        rw [e,show (0:Int) - ((numb (bitOf b) (p+1) n.toNat:Nat):Int) = -((numb (bitOf b) (p+1) n.toNat:Nat):Int) by omega,i64w (x := -((numb (bitOf b) (p+1) n.toNat:Nat):Int)) (by omega),i32w (by omega)]
        exact ⟨rfl,m2,m3,m4⟩
      · have e:rSigned b p n=(((numb (bitOf b) (p+1) n.toNat:Nat):Int),0,p+(n.toNat+1)):=by unfold rSigned; rw [if_neg h0,if_neg (by omega),if_neg (by omega)]
        rw [e,i32w (by omega)]
        exact ⟨rfl,m2,m3,m4⟩
theorem numb_zero {f:Nat→Nat} {a:Nat}:∀ {n:Nat},numb f a n=0↔∀ i,i<n→f (a+i)=0
  | 0=>by simp [numb]
  | n+1=>by
    have ih:=numb_zero (f:=f) (a:=a) (n:=n)
    rw [numb]
    constructor
    · intro h i hi
      by_cases hin:i=n
      · rw [hin]; omega
      · exact ih.1 (by omega) i (by omega)
    · intro h
      have h1:=ih.2 fun i hi=>h i (by omega)
      have h2:=h n (by omega)
      omega
end
end Go.Zt

/- Layer 1: bits of bytes,bytes of bits; the document's readers,made and at their end. -/
set_option linter.unusedSimpArgs false
set_option linter.unusedVariables false
namespace Go.Zt
open Go Go.Sim Go.Proofs Go.RowKit
abbrev Bin (l:List Nat):Prop:=∀ x ∈ l,x<2
abbrev bitL (l:List Nat) (i:Nat):Nat:=l.getD i 0
def gbyte (l:List Nat) (q:Nat):Nat:=numb (bitL l) (8*q) 8
def pack (l:List Nat):List Nat:=(List.range ((l.length+7) / 8)).map (gbyte l)
theorem bitL_lt {l:List Nat} (h:Bin l) (i:Nat):bitL l i<2:=by
  unfold bitL
  by_cases hi:i<l.length
  · simp only [List.getD_eq_getElem?_getD,List.getElem?_eq_getElem hi,Option.getD_some]; exact h _ (List.getElem_mem _)
  · simp [List.getD_eq_getElem?_getD,List.getElem?_eq_none (show l.length≤i by omega)]
theorem gbyte_lt {l:List Nat} (h:Bin l) (q:Nat):gbyte l q<256:=numb_lt (bitL_lt h) (8*q) 8
theorem pack_len (l:List Nat):(pack l).length=(l.length+7) / 8:=by simp [pack]
theorem numb_ext {f g:Nat→Nat} {a a':Nat}:∀ {n:Nat},(∀ i,i<n→f (a+i)=g (a'+i))→numb f a n=numb g a' n
  | 0,_=>rfl
  | n+1,h=>by
    rw [numb,numb,numb_ext (n:=n) fun i hi=>h i (by omega),h n (by omega)]
theorem c62_inner {M0 M:Mem} {A:Option Addr} {l:List Nat} (hf:M0.floor≤M0.nb.size) (hR:Row M0 A (N64 l)) (hb:Bin l) (hl:l.length≤1000000000000) {n c:Nat} (hn:n=l.length) (K:Keep M0 M) {B:Option Addr} {cB q:Nat} (hq:8*q≤l.length)
    (hO:Own (fun j=>M0.nb.size≤j) M 5 B cB (U8 ((List.range q).map (gbyte l)))) {Q:Value→Mem→Prop}
    (hQ:∀ B' c' M',Keep M0 M'→Own (fun j=>M0.nb.size≤j) M' 5 B' c' (U8 ((List.range (q+1)).map (gbyte l)))→A62_1 A n c B' (q+1) c' ((8*(q+1):Nat):Int) M' Q):
    ∀ (r k:Nat),k+r=8→A62_2 A n c B q cB ((8*q:Nat):Int) (numb (bitL l) (8*q) k:Nat) k M Q
  | 0,k,hk=>by
    obtain rfl:k=8:=by omega
    have hlt:=gbyte_lt hb q
    have e:IntKind.u8.wrap ((numb (bitL l) (8*q) 8:Nat):Int)=((gbyte l q:Nat):Int):=u8w (by unfold gbyte at hlt; omega)
    obtain ⟨B',c',M',g1,g2,g3,g4⟩:=app1 el5 hf K hO (n:=q) (by simp) (v:=.int .u8 (gbyte l q:Nat)) rfl (by omega)
    refine w62_2 ⟨fun h=>absurd h (by omega),fun _=>?_⟩
    rw [e,i64w (by omega),show (((8*q:Nat):Int)+8)=((8*(q+1):Nat):Int) by omega]
    refine ⟨_,g1,_,rfl,hQ B' c' M' g2 ?_⟩
    have e2:U8 ((List.range (q+1)).map (gbyte l))=U8 ((List.range q).map (gbyte l)) ++ [.int .u8 (gbyte l q:Nat)]:=by rw [List.range_succ]; simp
    rw [e2]; exact g3
  | r+1,k,hk=>by
    have hlt:=numb_lt (bitL_lt hb) (8*q) k
    have h7 : 2 ^ k ≤ 128 := by have : k ≤ 7 := by omega
                                exact Nat.pow_le_pow_right (n:=2) (by decide) this
    have next:∀ x:Nat,x=bitL l (8*q+k)→∀ y:Int,y=((numb (bitL l) (8*q) k:Nat):Int)*2+x→A62_3 A n c B q cB ((8*q:Nat):Int) y k M Q:=by
      intro x hx y hy
      refine w62_3 ?_
      rw [i64w (by omega),show ((k:Int)+1)=((k+1:Nat):Int) by omega,hy,show ((numb (bitL l) (8*q) k:Nat):Int)*2+(x:Int)=((numb (bitL l) (8*q) (k+1):Nat):Int) by rw [numb,hx]; omega]
      exact c62_inner hf hR hb hl hn K hq hO hQ r (k+1) (by omega)
    refine w62_2 ⟨fun _=>?_,fun h=>absurd (show ((k:Nat):Int)<8 by omega) h⟩
    have ei:IntKind.i64.wrap (((8*q:Nat):Int)+k)=((8*q+k:Nat):Int):=by rw [i64w (by omega)]; omega
    rw [ei,i64w (x:=((numb (bitL l) (8*q) k:Nat):Int)*2) (by omega)]
    refine ⟨fun h1=>?_,fun h1=>?_⟩
    · have hi:8*q+k<l.length:=by omega
      have hx:l[8*q+k]<2:=hb _ (List.getElem_mem _)
      obtain ⟨a,i1,i2⟩:=(hR.keep K).int1 (n:=n) (i:=8*q+k) (z:=((8*q+k:Nat):Int)) (k:=.i64) (x:=(l[8*q+k]:Nat)) rfl (by omega) (by simp [hi])
      refine ⟨_,i1,_,i2,next l[8*q+k] (by simp [bitL,hi]) _ (i64w (by omega))⟩
    · exact next 0 (by simp [bitL,List.getElem?_eq_none (show l.length≤8*q+k by omega)]) _ (by omega)
theorem c62_outer {M0:Mem} {A:Option Addr} {l:List Nat} (hf:M0.floor≤M0.nb.size) (hR:Row M0 A (N64 l)) (hb:Bin l) (hl:l.length≤1000000000000) {n c:Nat} (hn:n=l.length) {Q:Value→Mem→Prop}
    (hQ:∀ B' c' M',Keep M0 M'→Own (fun j=>M0.nb.size≤j) M' 5 B' c' (U8 (pack l))→Q (.slice B' (pack l).length c') M'):
    ∀ (r q:Nat) {M:Mem} {B:Option Addr} {cB:Nat},q+r=(l.length+7) / 8→Keep M0 M→Own (fun j=>M0.nb.size≤j) M 5 B cB (U8 ((List.range q).map (gbyte l)))→A62_1 A n c B q cB ((8*q:Nat):Int) M Q
  | 0,q,M,B,cB,hq,K,hO=>by
    refine w62_1 ⟨fun h=>by omega,fun _=>?_⟩
    have e:(List.range q).map (gbyte l)=pack l:=by unfold pack; rw [← hq,Nat.add_zero]
    rw [e] at hO
    have:=hQ B cB M K hO
    rw [pack_len,← hq,Nat.add_zero] at this
    exact this
  | r+1,q,M,B,cB,hq,K,hO=>by
    refine w62_1 ⟨fun _=>?_,fun h=>absurd (show ((8*q:Nat):Int)<n by omega) h⟩
    exact c62_inner hf hR hb hl hn K (by omega) hO (fun B' c' M' hK hO'=>c62_outer hf hR hb hl hn hQ r (q+1) (by omega) hK hO') 8 0 rfl
theorem c62 {M:Mem} {A:Option Addr} {l:List Nat} (hf:M.floor≤M.nb.size) (hR:Row M A (N64 l)) (hb:Bin l) (hl:l.length≤1000000000000) {n c:Nat} (hn:n=l.length):
    Cn Try.prog 62 #[.slice A n c] M fun v N=>∃ A' c',v=.slice A' (pack l).length c'∧Keep M N∧Own (fun j=>M.nb.size≤j) N 5 A' c' (U8 (pack l)):=
  w62_0 (c62_outer hf hR hb hl hn (fun B' c' M' hK hO=>⟨B',c',rfl,hK,hO⟩) _ 0 (Nat.zero_add _) (.refl _) (.inl ⟨rfl,rfl,rfl⟩))
theorem c63_inner {M0:Mem} {A:Option Addr} {b:List Nat} (hf:M0.floor≤M0.nb.size) (hR:Row M0 A (U8 b)) (hB:Byt b) (hl:b.length≤4294967296) {n c:Nat} (hn:n=b.length) {i:Nat} (hi:i<b.length) {Q:Value→Mem→Prop}
    (hQ:∀ B' c' M',Keep M0 M'→Own (fun j=>M0.nb.size≤j) M' 3 B' c' (N64 ((List.range (8*(i+1))).map (bitOf b)))→8*(i+1)≤c'→A63_1 A n c B' (8*(i+1)) c' ((i+1:Nat):Int) M' Q):
    ∀ (r k:Nat) {M:Mem} {B:Option Addr} {cB:Nat},k+r=8→Keep M0 M→Own (fun j=>M0.nb.size≤j) M 3 B cB (N64 ((List.range (8*i+k)).map (bitOf b)))→8*i+k≤cB→A63_2 A n c B (8*i+k) cB i (7 - (k:Int)) M Q
  | 0,k,M,B,cB,hk,K,hO,hc=>by
    obtain rfl:k=8:=by omega
    refine w63_2 ⟨fun h=>absurd h (by omega),fun _=>?_⟩
    rw [i64w (by omega),show ((i:Int)+1)=((i+1:Nat):Int) by omega]
    exact hQ B cB M K hO hc
  | r+1,k,M,B,cB,hk,K,hO,hc=>by
    have hx:b[i]<256:=hB _ (List.getElem_mem _)
    obtain ⟨a,i1,i2⟩:=(hR.keep K).int1 (n:=n) (i:=i) (z:=(i:Int)) (k:=.u8) (x:=(b[i]:Nat)) rfl (by omega) (by simp [hi])
    have eb:bitOf b (8*i+k)=b[i] / 2 ^ (7 - k) % 2:=by
      unfold bitOf; rw [show (8*i+k) / 8=i by omega,show (8*i+k) % 8=k by omega]; simp [hi]
    have hd:b[i] / 2 ^ (7 - k)<256:=Nat.lt_of_le_of_lt (Nat.div_le_self _ _) hx
    have e:(IntKind.i64.wrap ((b[i] / 2 ^ (7 - k):Nat):Int)).tmod 2=((bitOf b (8*i+k):Nat):Int):=by
      rw [eb]
      generalize b[i] / 2 ^ (7 - k)=y at hd
      rw [i64w (by omega)]; exact tmodN y 2
    obtain ⟨B',c',M',g1,g2,g3,g4⟩:=app1 el3 hf K hO (n:=8*i+k) (by simp) (v:=.int .i64 (bitOf b (8*i+k):Nat)) rfl (by omega)
    refine w63_2 ⟨fun _=>⟨_,i1,_,i2,_,shr_nat (k:=.u8) (q:=7 - k) (by omega) (show 7 - k≤8 by omega),_,rfl,?_⟩,fun h=>absurd (show (7 - (k:Int)) ≥ 0 by omega) h⟩
    rw [e,i64w (x:=7 - (k:Int) - 1) (by omega),show (7 - (k:Int) - 1)=7 - ((k+1:Nat):Int) by omega]
    refine ⟨_,g1,_,rfl,c63_inner hf hR hB hl hn hi hQ r (k+1) (by omega) g2 ?_ g4⟩
    have e2:N64 ((List.range (8*i+(k+1))).map (bitOf b))=N64 ((List.range (8*i+k)).map (bitOf b)) ++ [.int .i64 (bitOf b (8*i+k):Nat)]:=by rw [← Nat.add_assoc,List.range_succ]; simp
    rw [e2]; exact g3
theorem c63_outer {M0:Mem} {A:Option Addr} {b:List Nat} (hf:M0.floor≤M0.nb.size) (hR:Row M0 A (U8 b)) (hB:Byt b) (hl:b.length≤4294967296) {n c:Nat} (hn:n=b.length) {Q:Value→Mem→Prop}
    (hQ:∀ B' c' M',Keep M0 M'→Own (fun j=>M0.nb.size≤j) M' 3 B' c' (N64 (bitsOf b))→8*b.length≤c'→Q (.slice B' (8*b.length) c') M'):
    ∀ (r i:Nat) {M:Mem} {B:Option Addr} {cB:Nat},i+r=b.length→Keep M0 M→Own (fun j=>M0.nb.size≤j) M 3 B cB (N64 ((List.range (8*i)).map (bitOf b)))→8*i≤cB→A63_1 A n c B (8*i) cB i M Q
  | 0,i,M,B,cB,hi,K,hO,hc=>by
    obtain rfl:i=b.length:=by omega
    refine w63_1 ⟨fun h=>by omega,fun _=>hQ B cB M K hO hc⟩
  | r+1,i,M,B,cB,hi,K,hO,hc=>by
    refine w63_1 ⟨fun _=>?_,fun h=>absurd (show (i:Int)<n by omega) h⟩
    exact c63_inner hf hR hB hl hn (by omega) (fun B' c' M' hK hO' hc'=>c63_outer hf hR hB hl hn hQ r (i+1) (by omega) hK hO' hc') 8 0 rfl K hO hc
theorem c63 {M:Mem} {A:Option Addr} {b:List Nat} (hf:M.floor≤M.nb.size) (hR:Row M A (U8 b)) (hB:Byt b) (hl:b.length≤4294967296) {n c:Nat} (hn:n=b.length):
    Cn Try.prog 63 #[.slice A n c] M fun v N=>∃ A' c',v=.slice A' (8*b.length) c'∧Keep M N∧Own (fun j=>M.nb.size≤j) N 3 A' c' (N64 (bitsOf b))∧8*b.length≤c':=by
  obtain ⟨B,M',g1,g2,g3,g4⟩:=make_own el3' (S:=fun j=>M.nb.size≤j) (M:=M) (k:=.i64) (k':=.i64) (l:=0) (c:=IntKind.i64.wrap (8*(n:Int))) (Int.le_refl _) (by rw [i64w (by omega)]; omega) (by rw [i64w (by omega)]; omega) (Nat.le_refl _)
  refine w63_0 ⟨_,g1,_,rfl,?_⟩
  exact c63_outer hf hR hB hl hn (fun B' c' M' hK hO hc=>⟨B',c',rfl,hK,hO,hc⟩) _ 0 (Nat.zero_add _) (Keep.step (.refl _) g2 fun j hj=>hj) g4 (by omega)
theorem c32 {M:Mem} (hf:M.floor≤M.nb.size) {A:Option Addr} {n c:Nat} {b:List Nat} (hR:Row M A (U8 b)) (hn:n=b.length) (hb:b.length≤4294967296) (hB:Byt b):
    Cn Try.prog 32 #[.slice A n c] M fun v N=>∃ j,v=PtrB j∧Keep M N∧M.nb.size≤j∧j<N.nb.size∧RefR (fun i=>M.nb.size≤i∧i<j) N j b 0:=by
  refine w32_0 (Cn.mono (c63 hf hR hB hb hn) ?_)
  rintro v N ⟨A',c',rfl,hK,hO,hc⟩
  have hN:Chg (fun j=>M.nb.size≤j) N (N.new (.cells #[.slice A' (8*b.length) c',.int .i64 0] 104)):=.new _ _
  refine ⟨_,rfl,N.nb.size,rfl,Keep.step hK hN fun j hj=>hj,hK.size,by rw [Mem.new_size]; omega,⟨fun h=>by omega,hb,Nat.zero_le _,A',c',Mem.new_at _ _,hO.row.keep (.new _ _),hc,hO.none_zero,fun a ha=>?_⟩⟩
  have h1:=hO.in_ a ha
  have h2:a.block / 2<N.nb.size:=by
    rcases hO with ⟨h,_⟩ | ⟨j,cs,sp,h,_,_,h4,_⟩
    · rw [h] at ha; cases ha
    · rw [h] at ha; obtain rfl:=Option.some.inj ha
      show 2*j / 2<_
      have:=lt_of_at h4; omega
  exact .inr ⟨h1.2,h2⟩
end Go.Zt
