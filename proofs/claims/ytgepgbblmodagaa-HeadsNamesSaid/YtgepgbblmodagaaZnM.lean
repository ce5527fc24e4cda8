/- Layer 20: HeadsNames: the beginning of the walk,and the law. Printed by genM.py. -/
import Derived.Test.YtgepgbblmodagaaZlL
set_option linter.unusedSimpArgs false
set_option linter.unusedVariables false
set_option maxRecDepth 100000
namespace Go.Zt
open Go Go.Sim Go.Proofs Go.RowKit
section
variable {M:Mem} {js:Nat}
set_option maxHeartbeats 4000000 in
theorem e8_1 (hf:M.floor≤M.nb.size) (s:M.nb[js]?=some (.cells sB 23)):A8_1 (some ⟨2*js,0,none⟩) false M fun v _=>v=.bool true:=by
  refine w8_1 (cF rfl ?_)
  have a0:=Mem.new_at M (.cells #[.int .i64 0,.int .i64 0,.int .i64 16,.int .i64 16,.int .i64 15,.int .i64 16,.int .i64 16,.int .i64 258,.int .i64 256,.int .i64 256,.int .i64 258,.int .i64 16,.int .i64 17,.int .i64 16,.int .i64 14,.int .i64 16,.int .i64 (-16),.int .i64 16,.int .i64 4611686018427387904,.int .i64 16] 23)
  have K0:Keep M (M.new (.cells #[.int .i64 0,.int .i64 0,.int .i64 16,.int .i64 16,.int .i64 15,.int .i64 16,.int .i64 16,.int .i64 258,.int .i64 256,.int .i64 256,.int .i64 258,.int .i64 16,.int .i64 17,.int .i64 16,.int .i64 14,.int .i64 16,.int .i64 (-16),.int .i64 16,.int .i64 4611686018427387904,.int .i64 16] 23)):=.new _ _
  generalize M.new (.cells #[.int .i64 0,.int .i64 0,.int .i64 16,.int .i64 16,.int .i64 15,.int .i64 16,.int .i64 16,.int .i64 258,.int .i64 256,.int .i64 256,.int .i64 258,.int .i64 16,.int .i64 17,.int .i64 16,.int .i64 14,.int .i64 16,.int .i64 (-16),.int .i64 16,.int .i64 4611686018427387904,.int .i64 16] 23)=M0 at a0 K0 ⊢
  have a1:=Mem.new_at M0 (.cells #[.int .u8 48] 5)
  have K1:Keep M0 (M0.new (.cells #[.int .u8 48] 5)):=.new _ _
  generalize M0.new (.cells #[.int .u8 48] 5)=M1 at a1 K1 ⊢
  have a2:=Mem.new_at M1 (.cells #[.int .u8 48,.int .u8 32] 5)
  have K2:Keep M1 (M1.new (.cells #[.int .u8 48,.int .u8 32] 5)):=.new _ _
  generalize M1.new (.cells #[.int .u8 48,.int .u8 32] 5)=M2 at a2 K2 ⊢
  have a3:=Mem.new_at M2 (.cells #[.int .u8 255,.int .u8 252] 5)
  have K3:Keep M2 (M2.new (.cells #[.int .u8 255,.int .u8 252] 5)):=.new _ _
  generalize M2.new (.cells #[.int .u8 255,.int .u8 252] 5)=M3 at a3 K3 ⊢
  have a4:=Mem.new_at M3 (.cells #[.int .u8 48,.int .u8 33] 5)
  have K4:Keep M3 (M3.new (.cells #[.int .u8 48,.int .u8 33] 5)):=.new _ _
  generalize M3.new (.cells #[.int .u8 48,.int .u8 33] 5)=M4 at a4 K4 ⊢
  have a5:=Mem.new_at M4 (.cells #[.int .u8 48,.int .u8 34] 5)
  have K5:Keep M4 (M4.new (.cells #[.int .u8 48,.int .u8 34] 5)):=.new _ _
  generalize M4.new (.cells #[.int .u8 48,.int .u8 34] 5)=M5 at a5 K5 ⊢
  have a6:=Mem.new_at M5 (.cells #[.int .u8 48,.int .u8 32,.int .u8 0] 5)
  have K6:Keep M5 (M5.new (.cells #[.int .u8 48,.int .u8 32,.int .u8 0] 5)):=.new _ _
  generalize M5.new (.cells #[.int .u8 48,.int .u8 32,.int .u8 0] 5)=M6 at a6 K6 ⊢
  have a7:=Mem.new_at M6 (.cells #[.int .u8 241,.int .u8 224] 5)
  have K7:Keep M6 (M6.new (.cells #[.int .u8 241,.int .u8 224] 5)):=.new _ _
  generalize M6.new (.cells #[.int .u8 241,.int .u8 224] 5)=M7 at a7 K7 ⊢
  have a8:=Mem.new_at M7 (.cells #[.int .u8 240,.int .u8 0] 5)
  have K8:Keep M7 (M7.new (.cells #[.int .u8 240,.int .u8 0] 5)):=.new _ _
  generalize M7.new (.cells #[.int .u8 240,.int .u8 0] 5)=M8 at a8 K8 ⊢
  have a9:=Mem.new_at M8 (.cells #[.int .u8 242,.int .u8 0] 5)
  have K9:Keep M8 (M8.new (.cells #[.int .u8 242,.int .u8 0] 5)):=.new _ _
  generalize M8.new (.cells #[.int .u8 242,.int .u8 0] 5)=M9 at a9 K9 ⊢
  have a10:=Mem.new_at M9 (.cells #[.slice none 0 0,.slice (some ⟨2*M0.nb.size,0,none⟩) 1 1,.slice (some ⟨2*M1.nb.size,0,none⟩) 2 2,.slice (some ⟨2*M2.nb.size,0,none⟩) 2 2,.slice (some ⟨2*M3.nb.size,0,none⟩) 2 2,.slice (some ⟨2*M4.nb.size,0,none⟩) 2 2,.slice (some ⟨2*M5.nb.size,0,none⟩) 3 3,.slice (some ⟨2*M6.nb.size,0,none⟩) 2 2,.slice (some ⟨2*M7.nb.size,0,none⟩) 2 2,.slice (some ⟨2*M8.nb.size,0,none⟩) 2 2] 24)
  have K10:Keep M9 (M9.new (.cells #[.slice none 0 0,.slice (some ⟨2*M0.nb.size,0,none⟩) 1 1,.slice (some ⟨2*M1.nb.size,0,none⟩) 2 2,.slice (some ⟨2*M2.nb.size,0,none⟩) 2 2,.slice (some ⟨2*M3.nb.size,0,none⟩) 2 2,.slice (some ⟨2*M4.nb.size,0,none⟩) 2 2,.slice (some ⟨2*M5.nb.size,0,none⟩) 3 3,.slice (some ⟨2*M6.nb.size,0,none⟩) 2 2,.slice (some ⟨2*M7.nb.size,0,none⟩) 2 2,.slice (some ⟨2*M8.nb.size,0,none⟩) 2 2] 24)):=.new _ _
  generalize M9.new (.cells #[.slice none 0 0,.slice (some ⟨2*M0.nb.size,0,none⟩) 1 1,.slice (some ⟨2*M1.nb.size,0,none⟩) 2 2,.slice (some ⟨2*M2.nb.size,0,none⟩) 2 2,.slice (some ⟨2*M3.nb.size,0,none⟩) 2 2,.slice (some ⟨2*M4.nb.size,0,none⟩) 2 2,.slice (some ⟨2*M5.nb.size,0,none⟩) 3 3,.slice (some ⟨2*M6.nb.size,0,none⟩) 2 2,.slice (some ⟨2*M7.nb.size,0,none⟩) 2 2,.slice (some ⟨2*M8.nb.size,0,none⟩) 2 2] 24)=M10 at a10 K10 ⊢
  have T10:=K10
  have T9:=K9.trans T10
  have T8:=K8.trans T9
  have T7:=K7.trans T8
  have T6:=K6.trans T7
  have T5:=K5.trans T6
  have T4:=K4.trans T5
  have T3:=K3.trans T4
  have T2:=K2.trans T3
  have T1:=K1.trans T2
  have T0:=K0.trans T1
  refine e8_2 10 0 (by omega) (fb hf T0) (at_keep s T0) ⟨fun i hi=>?_,fun i hi=>?_⟩
  · have a:=at_keep a0 T1
    match i,hi with
    | 0,_=>exact ⟨⟨2*M.nb.size,0,none⟩,by kernel_rfl,_,_,int_of (i:=0) a rfl,int_of (i:=1) a rfl⟩
    | 1,_=>exact ⟨⟨2*M.nb.size,2,none⟩,by kernel_rfl,_,_,int_of (i:=2) a rfl,int_of (i:=3) a rfl⟩
    | 2,_=>exact ⟨⟨2*M.nb.size,4,none⟩,by kernel_rfl,_,_,int_of (i:=4) a rfl,int_of (i:=5) a rfl⟩
    | 3,_=>exact ⟨⟨2*M.nb.size,6,none⟩,by kernel_rfl,_,_,int_of (i:=6) a rfl,int_of (i:=7) a rfl⟩
    | 4,_=>exact ⟨⟨2*M.nb.size,8,none⟩,by kernel_rfl,_,_,int_of (i:=8) a rfl,int_of (i:=9) a rfl⟩
    | 5,_=>exact ⟨⟨2*M.nb.size,10,none⟩,by kernel_rfl,_,_,int_of (i:=10) a rfl,int_of (i:=11) a rfl⟩
    | 6,_=>exact ⟨⟨2*M.nb.size,12,none⟩,by kernel_rfl,_,_,int_of (i:=12) a rfl,int_of (i:=13) a rfl⟩
    | 7,_=>exact ⟨⟨2*M.nb.size,14,none⟩,by kernel_rfl,_,_,int_of (i:=14) a rfl,int_of (i:=15) a rfl⟩
    | 8,_=>exact ⟨⟨2*M.nb.size,16,none⟩,by kernel_rfl,_,_,int_of (i:=16) a rfl,int_of (i:=17) a rfl⟩
    | 9,_=>exact ⟨⟨2*M.nb.size,18,none⟩,by kernel_rfl,_,_,int_of (i:=18) a rfl,int_of (i:=19) a rfl⟩
  · match i,hi with
    | 0,_=>exact ⟨⟨2*M9.nb.size,0,none⟩,by kernel_rfl,none,0,0,[],sl_of (i:=0) a10 rfl,fun i hi=>(by simp at hi),rfl,by decide,by decide⟩
    | 1,_=>exact ⟨⟨2*M9.nb.size,1,none⟩,by kernel_rfl,_,_,_,[48],sl_of (i:=1) a10 rfl,(row_at a1).keep T2,rfl,by decide,by decide⟩
    | 2,_=>exact ⟨⟨2*M9.nb.size,2,none⟩,by kernel_rfl,_,_,_,[48,32],sl_of (i:=2) a10 rfl,(row_at a2).keep T3,rfl,by decide,by decide⟩
    | 3,_=>exact ⟨⟨2*M9.nb.size,3,none⟩,by kernel_rfl,_,_,_,[255,252],sl_of (i:=3) a10 rfl,(row_at a3).keep T4,rfl,by decide,by decide⟩
    | 4,_=>exact ⟨⟨2*M9.nb.size,4,none⟩,by kernel_rfl,_,_,_,[48,33],sl_of (i:=4) a10 rfl,(row_at a4).keep T5,rfl,by decide,by decide⟩
    | 5,_=>exact ⟨⟨2*M9.nb.size,5,none⟩,by kernel_rfl,_,_,_,[48,34],sl_of (i:=5) a10 rfl,(row_at a5).keep T6,rfl,by decide,by decide⟩
    | 6,_=>exact ⟨⟨2*M9.nb.size,6,none⟩,by kernel_rfl,_,_,_,[48,32,0],sl_of (i:=6) a10 rfl,(row_at a6).keep T7,rfl,by decide,by decide⟩
    | 7,_=>exact ⟨⟨2*M9.nb.size,7,none⟩,by kernel_rfl,_,_,_,[241,224],sl_of (i:=7) a10 rfl,(row_at a7).keep T8,rfl,by decide,by decide⟩
    | 8,_=>exact ⟨⟨2*M9.nb.size,8,none⟩,by kernel_rfl,_,_,_,[240,0],sl_of (i:=8) a10 rfl,(row_at a8).keep T9,rfl,by decide,by decide⟩
    | 9,_=>exact ⟨⟨2*M9.nb.size,9,none⟩,by kernel_rfl,_,_,_,[242,0],sl_of (i:=9) a10 rfl,(row_at a9).keep T10,rfl,by decide,by decide⟩
set_option maxHeartbeats 4000000 in
theorem c8 (hf:M.floor≤M.nb.size):Cn Try.prog 8 #[] M fun v _=>v=.bool true:=by
  refine w8_0 (stN (cs:=sB) hf rfl rfl rfl fun M1 K1 z1 s=>on (int_of (i:=0) s rfl) (on (int_of (i:=0+1) s rfl) (Cn.mono (Cn35n (fb hf K1)) ?_)))
  rintro _ N4 ⟨rfl,K4⟩
  have T4:=K1.trans K4
  refine ty rfl (ty rfl (ty30 zP (ty rfl (stN (cs:=zP.cs) (fb hf T4) rfl rfl rfl fun M8 K8 z8 b8=>?_))))
  have T8:=T4.trans K8
  have KR:=keep_res M8 1
  have zR:=res_size M8 1
  generalize M8.res 1=R at KR zR ⊢
  have TR:=T8.trans KR
  refine Cn.mono (c41 (fb hf TR)) ?_
  rintro _ N9 ⟨rfl,K9⟩
  have T9:=TR.trans K9
  refine ty rfl (ty30 uH (Cn.mono (Cn24e (h:=uH) Cn46n) ?_))
  rintro _ N1 ⟨rfl,K71⟩
  have T71:=T9.trans K71
  have K8t:Keep M8 N1:=(KR.trans K9).trans K71
  refine ty rfl (cF rfl (on30 (hdAt (at_keep b8 K8t)) (Cn.mono (c39 (h:=zP) (X:=[]) (A':=none) (c':=0) rfl (by decide) (fun i hi=>by simp at hi) (fun i hi=>by simp at hi)) ?_)))
  rintro _ N3 ⟨rfl,K103⟩
  have T103:=T71.trans K103
  have s3:=at_keep s (((K4.trans K8).trans K8t).trans K103)
  refine ty rfl (cF rfl (cF rfl (on (int_of (i:=0) s3 rfl) (on (int_of (i:=0+1) s3 rfl) (Cn.mono (c41 (M:={ N3 with floor:=N3.nb.size }) (Nat.le_refl _)) ?_)))))
  rintro _ N7 ⟨rfl,K7⟩
  have K7':=keep_fl K7
  refine ty rfl (ty30 uH ?_)
  generalize ({ N7 with floor:=N3.floor }:Mem)=V at K7' ⊢
  have TV:=T103.trans K7'
  have zV:=((KR.trans K9).trans (K71.trans (K103.trans K7'))).size
  have zK:=(K9.trans (K71.trans (K103.trans K7'))).size
  have u:=upd_at (M:=V) (b:=.cells #[.slice none 0 0,.int .i64 0,.bool false] 73) (j:=M8.nb.size+0) (by omega)
  have C:=upd_chg (M:=V) (S:=(· = M8.nb.size+0)) (b:=.cells #[.slice none 0 0,.int .i64 0,.bool false] 73) (j:=M8.nb.size+0) rfl
  have z8':=T8.size
  generalize V.upd (M8.nb.size+0) (.cells #[.slice none 0 0,.int .i64 0,.bool false] 73)=T at u C ⊢
  have TT:Keep M T:=Keep.step TV C fun i hi=>by omega
  have sM:=lt_of_at s
  have sT:=at_chg (at_keep s3 K7') C (by have:=(K4.trans K8).size; have:=K1.size; omega)
  refine Cn.mono (Cn24e (h:=uH) (Cn46z (at_keep u ((Chg.new _ _).trans (.new _ _))))) ?_
  rintro _ N ⟨rfl,KN⟩
  exact ty rfl (e8_1 (fb hf (TT.trans KN)) (at_keep sT KN))
end
theorem law8 {W:World}:Cn Try.prog 8 #[] (mem0 W) fun v _=>v=.bool true:=c8 (Nat.le_refl _)
end Go.Zt
