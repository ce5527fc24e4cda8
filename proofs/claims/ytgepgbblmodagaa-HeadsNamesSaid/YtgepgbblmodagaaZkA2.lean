/- Layer 20: the stages of awake's run. -/
import Derived.Test.YtgepgbblmodagaaZkA1
import Derived.Test.YtgepgbblmodagaaZqT
set_option maxRecDepth 100000
namespace Go.Zy
open Go Go.Sim Go.Proofs Go.RowKit
def k0:Blk:=.cells #[.int .i64 64,.int .i64 32] 23
def k1:Blk:=.cells #[.slice (some ⟨14,0,(some 0)⟩) 2 2,.int .i64 2,.bool true] 73
def k2:Blk:=.cells #[.int .u8 0] 5
def k3:Blk:=.cells #[.int .u8 48,.int .u8 32] 5
def k4:Blk:=.cells #[] 5
def k5:Blk:=.cells #[.slice (some ⟨24,0,(some 0)⟩) 2 2,.int .i64 16,.bool true] 101
def k6:Blk:=.cells #[.int .i64 64,.int .i64 32] 78
def k7:Blk:=.cells #[.slice none 0 0,.int .i64 0,.bool true] 73
def k8:Blk:=.cells #[.bool false,.int .i64 0,.bool true,.bool true,.int .i64 255,.int .i64 0,.int .i64 0,.int .i64 0,.int .i64 (-1),.int .i64 0,.int .i64 0,.int .i64 0,.int .i64 0,.int .i64 0,.int .i64 0,.int .i64 0,.int .i64 0,.bool false,.int .i64 0,.int .i64 0,.int .i64 0,.int .i64 0,.int .i64 0,.bool false,.int .i64 0,.int .i64 0,.slice none 0 0,.bool false,.bool false,.bool false] 41
def k9:Blk:=.cells #[.slice (some ⟨98,0,(some 0)⟩) 4 4,.int .i64 3,.bool true] 73
def k10:Blk:=.cells #[.pointer (some ⟨34,0,none⟩),.pointer none,.int .i64 0] 89
def k11:Blk:=.cells #[.int .i64 0] 3
def k12:Blk:=.cells #[.int .i64 1] 3
def k13:Blk:=.cells #[.bool false] 4
def k14:Blk:=.cells #[.int .u8 127,.int .u8 224,.int .u8 0,.int .u8 0] 5
def k15:Blk:=.cells #[.slice (some ⟨110,0,(some 0)⟩) 4 4,.int .i64 0,.bool true] 101
def k16:Blk:=.cells #[.slice (some ⟨110,0,(some 0)⟩) 4 4,.int .i64 29,.bool true] 101
def k17:Blk:=.cells #[.pointer none,.pointer (some ⟨112,0,none⟩),.int .i64 0] 89
def vv0:Value:=.tuple #[.slice (some ⟨18,0,(some 0)⟩) 2 2,.int .i64 0]
def aa0:Array Value:=#[.agg #[.int .i64 64,.int .i64 32]]
def mm0 (b:Array Obj):Mem:=⟨b,#[k0],0⟩
def nn0 (b:Array Obj):Mem:=⟨b,#[k0,k0,k0,k1,k2,.dead,k2,k3,k4,k3],0⟩
def vv1:Value:=.tuple #[.agg #[.int .i64 64,.int .i64 32],.int .i64 0]
def aa1:Array Value:=#[.slice (some ⟨18,0,(some 0)⟩) 2 2]
def mm1 (b:Array Obj):Mem:=⟨b,#[k0,k0,k0,k1,k2,.dead,k2,k3,k4,k3],0⟩
def nn1 (b:Array Obj):Mem:=⟨b,#[k0,k0,k0,k1,k2,.dead,k2,k3,k4,k3,k0,k4,k3,k5,k6,k0],0⟩
def vv2:Value:=.pointer (some ⟨34,0,none⟩)
def aa2:Array Value:=#[]
def mm2 (b:Array Obj):Mem:=⟨b,#[k0,k0,k0,k1,k2,.dead,k2,k3,k4,k3,k0,k4,k3,k5,k6,k0,k0],0⟩
def nn2 (b:Array Obj):Mem:=⟨b,#[k0,k0,k0,k1,k2,.dead,k2,k3,k4,k3,k0,k4,k3,k5,k6,k0,k0,k7],0⟩
def vv3:Value:=.agg #[.bool false,.int .i64 0,.bool true,.bool true,.int .i64 255,.int .i64 0,.int .i64 0,.int .i64 0,.int .i64 (-1),.int .i64 0,.int .i64 0,.int .i64 0,.int .i64 0,.int .i64 0,.int .i64 0,.int .i64 0,.int .i64 0,.bool false,.int .i64 0,.int .i64 0,.int .i64 0,.int .i64 0,.int .i64 0,.bool false,.int .i64 0,.int .i64 0,.slice none 0 0,.bool false,.bool false,.bool false]
def aa3:Array Value:=#[]
def mm3 (b:Array Obj):Mem:=⟨b,#[k0,k0,k0,k1,k2,.dead,k2,k3,k4,k3,k0,k4,k3,k5,k6,k0,k0,k7],18⟩
def nn3 (b:Array Obj):Mem:=⟨b,#[k0,k0,k0,k1,k2,.dead,k2,k3,k4,k3,k0,k4,k3,k5,k6,k0,k0,k7,k8],18⟩
def vv4:Value:=.int .i64 0
def aa4:Array Value:=#[.pointer (some ⟨34,0,none⟩),.agg #[.bool false,.int .i64 0,.bool true,.bool true,.int .i64 255,.int .i64 0,.int .i64 0,.int .i64 0,.int .i64 (-1),.int .i64 0,.int .i64 0,.int .i64 0,.int .i64 0,.int .i64 0,.int .i64 0,.int .i64 0,.int .i64 0,.bool false,.int .i64 0,.int .i64 0,.int .i64 0,.int .i64 0,.int .i64 0,.bool false,.int .i64 0,.int .i64 0,.slice none 0 0,.bool false,.bool false,.bool false],.agg #[.int .i64 64,.int .i64 32]]
def mm4 (b:Array Obj):Mem:=⟨b,#[k0,k0,k0,k1,k2,.dead,k2,k3,k4,k3,k0,k4,k3,k5,k6,k0,k0,k7,k8],0⟩
def nn4 (b:Array Obj):Mem:=⟨b,#[k0,k0,k0,k1,k2,.dead,k2,k3,k4,k3,k0,k4,k3,k5,k6,k0,k0,k9,k8,k8,k0,k8,k0,k0,k8,k8,k10,k0,k11,k2,.dead,k12,k12,k2,.dead,k13,k2,.dead,k13,k11,k13,k11,k13,k11,k13,k11,k13,k11,k2,k14,k11,k8],0⟩
def vv5:Value:=.slice (some ⟨106,0,(some 0)⟩) 4 4
def aa5:Array Value:=#[.pointer (some ⟨34,0,none⟩)]
def mm5 (b:Array Obj):Mem:=⟨b,#[k0,k0,k0,k1,k2,.dead,k2,k3,k4,k3,k0,k4,k3,k5,k6,k0,k0,k9,k8,k8,k0,k8,k0,k0,k8,k8,k10,k0,k11,k2,.dead,k12,k12,k2,.dead,k13,k2,.dead,k13,k11,k13,k11,k13,k11,k13,k11,k13,k11,k2,k14,k11,k8],0⟩
def nn5 (b:Array Obj):Mem:=⟨b,#[k0,k0,k0,k1,k2,.dead,k2,k3,k4,k3,k0,k4,k3,k5,k6,k0,k0,k9,k8,k8,k0,k8,k0,k0,k8,k8,k10,k0,k11,k2,.dead,k12,k12,k2,.dead,k13,k2,.dead,k13,k11,k13,k11,k13,k11,k13,k11,k13,k11,k2,k14,k11,k8,k4,k14],0⟩
def vv6:Value:=.pointer (some ⟨112,0,none⟩)
def aa6:Array Value:=#[.slice (some ⟨106,0,(some 0)⟩) 4 4]
def mm6 (b:Array Obj):Mem:=⟨b,#[k0,k0,k0,k1,k2,.dead,k2,k3,k4,k3,k0,k4,k3,k5,k6,k0,k0,k9,k8,k8,k0,k8,k0,k0,k8,k8,k10,k0,k11,k2,.dead,k12,k12,k2,.dead,k13,k2,.dead,k13,k11,k13,k11,k13,k11,k13,k11,k13,k11,k2,k14,k11,k8,k4,k14],0⟩
def nn6 (b:Array Obj):Mem:=⟨b,#[k0,k0,k0,k1,k2,.dead,k2,k3,k4,k3,k0,k4,k3,k5,k6,k0,k0,k9,k8,k8,k0,k8,k0,k0,k8,k8,k10,k0,k11,k2,.dead,k12,k12,k2,.dead,k13,k2,.dead,k13,k11,k13,k11,k13,k11,k13,k11,k13,k11,k2,k14,k11,k8,k4,k14,k4,k14,k15],0⟩
def vv7:Value:=.tuple #[.agg #[.bool false,.int .i64 0,.bool true,.bool true,.int .i64 255,.int .i64 0,.int .i64 0,.int .i64 0,.int .i64 (-1),.int .i64 0,.int .i64 0,.int .i64 0,.int .i64 0,.int .i64 0,.int .i64 0,.int .i64 0,.int .i64 0,.bool false,.int .i64 0,.int .i64 0,.int .i64 0,.int .i64 0,.int .i64 0,.bool false,.int .i64 0,.int .i64 0,.slice none 0 0,.bool false,.bool false,.bool false],.int .i64 0]
def aa7:Array Value:=#[.pointer (some ⟨112,0,none⟩),.agg #[.int .i64 64,.int .i64 32]]
def mm7 (b:Array Obj):Mem:=⟨b,#[k0,k0,k0,k1,k2,.dead,k2,k3,k4,k3,k0,k4,k3,k5,k6,k0,k0,k9,k8,k8,k0,k8,k0,k0,k8,k8,k10,k0,k11,k2,.dead,k12,k12,k2,.dead,k13,k2,.dead,k13,k11,k13,k11,k13,k11,k13,k11,k13,k11,k2,k14,k11,k8,k4,k14,k4,k14,k15],0⟩
def nn7 (b:Array Obj):Mem:=⟨b,#[k0,k0,k0,k1,k2,.dead,k2,k3,k4,k3,k0,k4,k3,k5,k6,k0,k0,k9,k8,k8,k0,k8,k0,k0,k8,k8,k10,k0,k11,k2,.dead,k12,k12,k2,.dead,k13,k2,.dead,k13,k11,k13,k11,k13,k11,k13,k11,k13,k11,k2,k14,k11,k8,k4,k14,k4,k14,k16,k0,k8,k0,k8,k17,k0,k11,k12,k12,k13,k13,k11,k13,k11,k13,k11,k13,k11,k13,k11,k11,k8],0⟩
def vv8:Value:=.bool true
def aa8:Array Value:=#[.slice (some ⟨18,0,(some 0)⟩) 2 2,.slice (some ⟨160,0,none⟩) 2 2]
def mm8 (b:Array Obj):Mem:=⟨b,#[k0,k0,k0,k1,k2,.dead,k2,k3,k4,k3,k0,k4,k3,k5,k6,k0,k0,k9,k8,k8,k0,k8,k0,k0,k8,k8,k10,k0,k11,k2,.dead,k12,k12,k2,.dead,k13,k2,.dead,k13,k11,k13,k11,k13,k11,k13,k11,k13,k11,k2,k14,k11,k8,k4,k14,k4,k14,k16,k0,k8,k0,k8,k17,k0,k11,k12,k12,k13,k13,k11,k13,k11,k13,k11,k13,k11,k13,k11,k11,k8,k8,k3,.dead],0⟩
def nn8 (b:Array Obj):Mem:=⟨b,#[k0,k0,k0,k1,k2,.dead,k2,k3,k4,k3,k0,k4,k3,k5,k6,k0,k0,k9,k8,k8,k0,k8,k0,k0,k8,k8,k10,k0,k11,k2,.dead,k12,k12,k2,.dead,k13,k2,.dead,k13,k11,k13,k11,k13,k11,k13,k11,k13,k11,k2,k14,k11,k8,k4,k14,k4,k14,k16,k0,k8,k0,k8,k17,k0,k11,k12,k12,k13,k13,k11,k13,k11,k13,k11,k13,k11,k13,k11,k11,k8,k8,k3,.dead],0⟩
def vv9:Value:=.slice (some ⟨166,0,(some 0)⟩) 4 4
def aa9:Array Value:=#[.pointer (some ⟨34,0,none⟩)]
def mm9 (b:Array Obj):Mem:=⟨b,#[k0,k0,k0,k1,k2,.dead,k2,k3,k4,k3,k0,k4,k3,k5,k6,k0,k0,k9,k8,k8,k0,k8,k0,k0,k8,k8,k10,k0,k11,k2,.dead,k12,k12,k2,.dead,k13,k2,.dead,k13,k11,k13,k11,k13,k11,k13,k11,k13,k11,k2,k14,k11,k8,k4,k14,k4,k14,k16,k0,k8,k0,k8,k17,k0,k11,k12,k12,k13,k13,k11,k13,k11,k13,k11,k13,k11,k13,k11,k11,k8,k8,k3,.dead],0⟩
def nn9 (b:Array Obj):Mem:=⟨b,#[k0,k0,k0,k1,k2,.dead,k2,k3,k4,k3,k0,k4,k3,k5,k6,k0,k0,k9,k8,k8,k0,k8,k0,k0,k8,k8,k10,k0,k11,k2,.dead,k12,k12,k2,.dead,k13,k2,.dead,k13,k11,k13,k11,k13,k11,k13,k11,k13,k11,k2,k14,k11,k8,k4,k14,k4,k14,k16,k0,k8,k0,k8,k17,k0,k11,k12,k12,k13,k13,k11,k13,k11,k13,k11,k13,k11,k13,k11,k11,k8,k8,k3,.dead,k4,k14],0⟩
def vv10:Value:=.bool true
def aa10:Array Value:=#[.slice (some ⟨166,0,(some 0)⟩) 4 4,.slice (some ⟨162,0,none⟩) 4 4]
def mm10 (b:Array Obj):Mem:=⟨b,#[k0,k0,k0,k1,k2,.dead,k2,k3,k4,k3,k0,k4,k3,k5,k6,k0,k0,k9,k8,k8,k0,k8,k0,k0,k8,k8,k10,k0,k11,k2,.dead,k12,k12,k2,.dead,k13,k2,.dead,k13,k11,k13,k11,k13,k11,k13,k11,k13,k11,k2,k14,k11,k8,k4,k14,k4,k14,k16,k0,k8,k0,k8,k17,k0,k11,k12,k12,k13,k13,k11,k13,k11,k13,k11,k13,k11,k13,k11,k11,k8,k8,k3,k14,k4,k14],0⟩
def nn10 (b:Array Obj):Mem:=⟨b,#[k0,k0,k0,k1,k2,.dead,k2,k3,k4,k3,k0,k4,k3,k5,k6,k0,k0,k9,k8,k8,k0,k8,k0,k0,k8,k8,k10,k0,k11,k2,.dead,k12,k12,k2,.dead,k13,k2,.dead,k13,k11,k13,k11,k13,k11,k13,k11,k13,k11,k2,k14,k11,k8,k4,k14,k4,k14,k16,k0,k8,k0,k8,k17,k0,k11,k12,k12,k13,k13,k11,k13,k11,k13,k11,k13,k11,k13,k11,k11,k8,k8,k3,k14,k4,k14],0⟩
def vv11:Value:=.agg #[.bool false,.int .i64 0,.bool true,.bool true,.int .i64 255,.int .i64 0,.int .i64 0,.int .i64 0,.int .i64 (-1),.int .i64 0,.int .i64 0,.int .i64 0,.int .i64 0,.int .i64 0,.int .i64 0,.int .i64 0,.int .i64 0,.bool false,.int .i64 0,.int .i64 0,.int .i64 0,.int .i64 0,.int .i64 0,.bool false,.int .i64 0,.int .i64 0,.slice none 0 0,.bool false,.bool false,.bool false]
def aa11:Array Value:=#[]
def mm11 (b:Array Obj):Mem:=⟨b,#[k0,k0,k0,k1,k2,.dead,k2,k3,k4,k3,k0,k4,k3,k5,k6,k0,k0,k9,k8,k8,k0,k8,k0,k0,k8,k8,k10,k0,k11,k2,.dead,k12,k12,k2,.dead,k13,k2,.dead,k13,k11,k13,k11,k13,k11,k13,k11,k13,k11,k2,k14,k11,k8,k4,k14,k4,k14,k16,k0,k8,k0,k8,k17,k0,k11,k12,k12,k13,k13,k11,k13,k11,k13,k11,k13,k11,k13,k11,k11,k8,k8,k3,k14,k4,k14],84⟩
def nn11 (b:Array Obj):Mem:=⟨b,#[k0,k0,k0,k1,k2,.dead,k2,k3,k4,k3,k0,k4,k3,k5,k6,k0,k0,k9,k8,k8,k0,k8,k0,k0,k8,k8,k10,k0,k11,k2,.dead,k12,k12,k2,.dead,k13,k2,.dead,k13,k11,k13,k11,k13,k11,k13,k11,k13,k11,k2,k14,k11,k8,k4,k14,k4,k14,k16,k0,k8,k0,k8,k17,k0,k11,k12,k12,k13,k13,k11,k13,k11,k13,k11,k13,k11,k13,k11,k11,k8,k8,k3,k14,k4,k14,k8],84⟩
def vv12:Value:=.bool true
def aa12:Array Value:=#[.agg #[.bool false,.int .i64 0,.bool true,.bool true,.int .i64 255,.int .i64 0,.int .i64 0,.int .i64 0,.int .i64 (-1),.int .i64 0,.int .i64 0,.int .i64 0,.int .i64 0,.int .i64 0,.int .i64 0,.int .i64 0,.int .i64 0,.bool false,.int .i64 0,.int .i64 0,.int .i64 0,.int .i64 0,.int .i64 0,.bool false,.int .i64 0,.int .i64 0,.slice none 0 0,.bool false,.bool false,.bool false],.agg #[.bool false,.int .i64 0,.bool true,.bool true,.int .i64 255,.int .i64 0,.int .i64 0,.int .i64 0,.int .i64 (-1),.int .i64 0,.int .i64 0,.int .i64 0,.int .i64 0,.int .i64 0,.int .i64 0,.int .i64 0,.int .i64 0,.bool false,.int .i64 0,.int .i64 0,.int .i64 0,.int .i64 0,.int .i64 0,.bool false,.int .i64 0,.int .i64 0,.slice none 0 0,.bool false,.bool false,.bool false]]
def mm12 (b:Array Obj):Mem:=⟨b,#[k0,k0,k0,k1,k2,.dead,k2,k3,k4,k3,k0,k4,k3,k5,k6,k0,k0,k9,k8,k8,k0,k8,k0,k0,k8,k8,k10,k0,k11,k2,.dead,k12,k12,k2,.dead,k13,k2,.dead,k13,k11,k13,k11,k13,k11,k13,k11,k13,k11,k2,k14,k11,k8,k4,k14,k4,k14,k16,k0,k8,k0,k8,k17,k0,k11,k12,k12,k13,k13,k11,k13,k11,k13,k11,k13,k11,k13,k11,k11,k8,k8,k3,k14,k4,k14,k8],0⟩
def nn12 (b:Array Obj):Mem:=⟨b,#[k0,k0,k0,k1,k2,.dead,k2,k3,k4,k3,k0,k4,k3,k5,k6,k0,k0,k9,k8,k8,k0,k8,k0,k0,k8,k8,k10,k0,k11,k2,.dead,k12,k12,k2,.dead,k13,k2,.dead,k13,k11,k13,k11,k13,k11,k13,k11,k13,k11,k2,k14,k11,k8,k4,k14,k4,k14,k16,k0,k8,k0,k8,k17,k0,k11,k12,k12,k13,k13,k11,k13,k11,k13,k11,k13,k11,k13,k11,k11,k8,k8,k3,k14,k4,k14,k8,k8,k8],0⟩
def vv13:Value:=.int .i64 3
def aa13:Array Value:=#[.pointer (some ⟨112,0,none⟩)]
def mm13 (b:Array Obj):Mem:=⟨b,#[k0,k0,k0,k1,k2,.dead,k2,k3,k4,k3,k0,k4,k3,k5,k6,k0,k0,k9,k8,k8,k0,k8,k0,k0,k8,k8,k10,k0,k11,k2,.dead,k12,k12,k2,.dead,k13,k2,.dead,k13,k11,k13,k11,k13,k11,k13,k11,k13,k11,k2,k14,k11,k8,k4,k14,k4,k14,k16,k0,k8,k0,k8,k17,k0,k11,k12,k12,k13,k13,k11,k13,k11,k13,k11,k13,k11,k13,k11,k11,k8,k8,k3,k14,k4,k14,k8,k8,k8],0⟩
def nn13 (b:Array Obj):Mem:=⟨b,#[k0,k0,k0,k1,k2,.dead,k2,k3,k4,k3,k0,k4,k3,k5,k6,k0,k0,k9,k8,k8,k0,k8,k0,k0,k8,k8,k10,k0,k11,k2,.dead,k12,k12,k2,.dead,k13,k2,.dead,k13,k11,k13,k11,k13,k11,k13,k11,k13,k11,k2,k14,k11,k8,k4,k14,k4,k14,k16,k0,k8,k0,k8,k17,k0,k11,k12,k12,k13,k13,k11,k13,k11,k13,k11,k13,k11,k13,k11,k11,k8,k8,k3,k14,k4,k14,k8,k8,k8],0⟩
theorem sg {f:Nat} {args args':Array Value} {M M' N:Mem} {v:Value} {Q:Value→Mem→Prop} (h:∀ k,zcall Try.prog (k+3000) f args' M'=some (v,N)) (hA:args=args') (hM:M=M') (q:Q v N):Sim.Cn Try.prog f args M Q:=by
  subst hM hA
  exact ⟨v,N,q,3000,fun n hn=>by obtain ⟨k,rfl⟩:=Nat.exists_eq_add_of_le' hn; exact h k⟩
end Go.Zy
