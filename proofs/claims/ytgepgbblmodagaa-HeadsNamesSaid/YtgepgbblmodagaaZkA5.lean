/- Layer 20: the stages of awake's run. -/
import Derived.Test.YtgepgbblmodagaaZkA2
set_option maxRecDepth 100000
namespace Go.Zy
open Go Go.Sim Go.Proofs Go.RowKit
theorem s0 (b:Array Obj) (k:Nat):zcall Try.prog (k+3000) 10 aa0 (mm0 b)=some (vv0,nn0 b):=by kernel_rfl
theorem s1 (b:Array Obj) (k:Nat):zcall Try.prog (k+3000) 12 aa1 (mm1 b)=some (vv1,nn1 b):=by kernel_rfl
theorem s2 (b:Array Obj) (k:Nat):zcall Try.prog (k+3000) 19 aa2 (mm2 b)=some (vv2,nn2 b):=by kernel_rfl
theorem s3 (b:Array Obj) (k:Nat):zcall Try.prog (k+3000) 41 aa3 (mm3 b)=some (vv3,nn3 b):=by kernel_rfl
theorem s5 (b:Array Obj) (k:Nat):zcall Try.prog (k+3000) 28 aa5 (mm5 b)=some (vv5,nn5 b):=by kernel_rfl
theorem s6 (b:Array Obj) (k:Nat):zcall Try.prog (k+3000) 31 aa6 (mm6 b)=some (vv6,nn6 b):=by kernel_rfl
theorem s8 (b:Array Obj) (k:Nat):zcall Try.prog (k+3000) 16 aa8 (mm8 b)=some (vv8,nn8 b):=by kernel_rfl
theorem s9 (b:Array Obj) (k:Nat):zcall Try.prog (k+3000) 28 aa9 (mm9 b)=some (vv9,nn9 b):=by kernel_rfl
theorem s10 (b:Array Obj) (k:Nat):zcall Try.prog (k+3000) 16 aa10 (mm10 b)=some (vv10,nn10 b):=by kernel_rfl
theorem s11 (b:Array Obj) (k:Nat):zcall Try.prog (k+3000) 41 aa11 (mm11 b)=some (vv11,nn11 b):=by kernel_rfl
theorem s12 (b:Array Obj) (k:Nat):zcall Try.prog (k+3000) 39 aa12 (mm12 b)=some (vv12,nn12 b):=by kernel_rfl
theorem s13 (b:Array Obj) (k:Nat):zcall Try.prog (k+3000) 37 aa13 (mm13 b)=some (vv13,nn13 b):=by kernel_rfl
end Go.Zy
