/- Layer 20: the stages of awake's run. -/
import Derived.Test.YtgepgbblmodagaaZkA3
import Derived.Test.YtgepgbblmodagaaZkA4
import Derived.Test.YtgepgbblmodagaaZkA5
set_option maxRecDepth 100000
namespace Go.Zy
open Go Go.Sim Go.Proofs Go.RowKit
set_option maxHeartbeats 4000000
theorem awake (b:Array Obj):Sim.Cn Try.prog 17 #[] ⟨b,#[],0⟩ (fun v _=>v=.bool true):=by
  refine w17_0 ?_
  refine st (M':=⟨b,#[k0],0⟩) rfl (by kernel_rfl) ?_
  refine on (x:=(64:Int)) (by kernel_rfl) ?_
  refine on (x:=(32:Int)) (by kernel_rfl) ?_
  refine sg (s0 b) (by kernel_rfl) (by kernel_rfl) ?_
  unfold vv0
  refine ty rfl ?_
  refine ty rfl ?_
  refine ty rfl ?_
  refine sg (s1 b) (by kernel_rfl) (by kernel_rfl) ?_
  unfold vv1
  refine ty rfl ?_
  refine ty rfl ?_
  refine ty rfl ?_
  refine ty rfl ?_
  refine ty rfl ?_
  refine ty rfl ?_
  refine st (M':=⟨b,#[k0,k0,k0,k1,k2,.dead,k2,k3,k4,k3,k0,k4,k3,k5,k6,k0,k0],0⟩) rfl (by kernel_rfl) ?_
  refine sg (s2 b) (by kernel_rfl) (by kernel_rfl) ?_
  unfold vv2
  refine ty rfl ?_
  refine cF rfl ?_
  refine on (x:=(64:Int)) (by kernel_rfl) ?_
  refine on (x:=(32:Int)) (by kernel_rfl) ?_
  refine sg (s3 b) (by kernel_rfl) (by kernel_rfl) ?_
  unfold vv3
  refine ty rfl ?_
  refine ac0 rfl ?_
  refine sg (s4 b) (by kernel_rfl) (by kernel_rfl) ?_
  unfold vv4
  refine ty rfl ?_
  refine sg (s5 b) (by kernel_rfl) (by kernel_rfl) ?_
  unfold vv5
  refine ty rfl ?_
  refine sg (s6 b) (by kernel_rfl) (by kernel_rfl) ?_
  unfold vv6
  refine ty rfl ?_
  refine cF rfl ?_
  refine on (x:=(64:Int)) (by kernel_rfl) ?_
  refine on (x:=(32:Int)) (by kernel_rfl) ?_
  refine sg (s7 b) (by kernel_rfl) (by kernel_rfl) ?_
  unfold vv7
  refine ty rfl ?_
  refine ty rfl ?_
  refine ac0 rfl ?_
  refine ty rfl ?_
  refine ty rfl ?_
  refine ac0 rfl ?_
  refine st (M':=⟨b,#[k0,k0,k0,k1,k2,.dead,k2,k3,k4,k3,k0,k4,k3,k5,k6,k0,k0,k9,k8,k8,k0,k8,k0,k0,k8,k8,k10,k0,k11,k2,.dead,k12,k12,k2,.dead,k13,k2,.dead,k13,k11,k13,k11,k13,k11,k13,k11,k13,k11,k2,k14,k11,k8,k4,k14,k4,k14,k16,k0,k8,k0,k8,k17,k0,k11,k12,k12,k13,k13,k11,k13,k11,k13,k11,k13,k11,k13,k11,k11,k8,k8],0⟩) rfl (by kernel_rfl) ?_
  refine cT rfl ?_
  refine cT rfl ?_
  refine on (x:=(64:Int)) (by kernel_rfl) ?_
  refine on (x:=(32:Int)) (by kernel_rfl) ?_
  refine on (x:=(64:Int)) (by kernel_rfl) ?_
  refine on (x:=(32:Int)) (by kernel_rfl) ?_
  refine pu (x:=.bool true) (by kernel_rfl) ?_
  refine ty rfl ?_
  refine cT rfl ?_
  refine sg (s8 b) (by kernel_rfl) (by kernel_rfl) ?_
  unfold vv8
  refine ty rfl ?_
  refine cT rfl ?_
  refine cT rfl ?_
  refine sg (s9 b) (by kernel_rfl) (by kernel_rfl) ?_
  unfold vv9
  refine ty rfl ?_
  refine sg (s10 b) (by kernel_rfl) (by kernel_rfl) ?_
  unfold vv10
  refine ty rfl ?_
  refine cT rfl ?_
  refine cT rfl ?_
  refine ldA (cs:=#[.bool false,.int .i64 0,.bool true,.bool true,.int .i64 255,.int .i64 0,.int .i64 0,.int .i64 0,.int .i64 (-1),.int .i64 0,.int .i64 0,.int .i64 0,.int .i64 0,.int .i64 0,.int .i64 0,.int .i64 0,.int .i64 0,.bool false,.int .i64 0,.int .i64 0,.int .i64 0,.int .i64 0,.int .i64 0,.bool false,.int .i64 0,.int .i64 0,.slice none 0 0,.bool false,.bool false,.bool false]) (t:=41) (by kernel_rfl) rfl ?_
  refine sg (s11 b) (by kernel_rfl) (by kernel_rfl) ?_
  unfold vv11
  refine ty rfl ?_
  refine ac0 rfl ?_
  refine sg (s12 b) (by kernel_rfl) (by kernel_rfl) ?_
  unfold vv12
  refine ty rfl ?_
  refine cT rfl ?_
  refine sg (s13 b) (by kernel_rfl) (by kernel_rfl) ?_
  unfold vv13
  refine ty rfl ?_
  rfl
end Go.Zy
