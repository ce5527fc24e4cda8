/- Layer 20: HeadsNames: HeadsWrites and HeadsReads of what stands in new memory,and what stays. -/
import Derived.Test.YtgepgbblmodagaaZmA
import Derived.Test.YtgepgbblmodagaaZmE
import Derived.Test.YtgepgbblmodagaaProg
import Derived.Test.YtgepgbblmodagaaZkA
import Derived.Test.YtgepgbblmodagaaZqT
import Derived.Test.YtgepgbblmodagaaZlP
import Derived.Test.YtgepgbblmodagaaZlW
set_option linter.unusedSimpArgs false
set_option linter.unusedVariables false
set_option maxRecDepth 100000
namespace Go.Zt
open Go Go.Sim Go.Proofs Go.RowKit
section
variable {U V U' V':Nat→Prop} {M N M0:Mem} {jp jq k:Nat} {l l' l2:List Nat} {h:Hd} {X:List Sg} {w e:Int}
set_option maxHeartbeats 1000000 in
theorem c4k {x:Int} (hx : -9223372036854775808≤x∧x≤9223372036854775807) (hf:M.floor≤M.nb.size) (hn:h.n=X.length) (hb:h.n≤1048576) (hO:∀ a,h.A=some a→a.block % 2=1∨a.block / 2<M.nb.size) (hR:Row M h.A (Sgs X)):
    Cn Try.prog 4 #[.agg h.cs,.agg #[.int .i64 w,.int .i64 e],.int .i64 x] M fun v N=>v=.bool true∧Keep M N:=by
  have a:=Mem.new_at M (.cells h.cs 41)
  have K1:Keep M (M.new (.cells h.cs 41)):=.new _ _
  refine w4_0 ?_
  have s1:=Mem.new_size M (.cells h.cs 41)
  generalize M.new (.cells h.cs 41)=M1 at a K1 s1 ⊢
  have s:=Mem.new_at M1 (.cells #[.int .i64 w,.int .i64 e] 23)
  have K2:Keep M1 (M1.new (.cells #[.int .i64 w,.int .i64 e] 23)):=.new _ _
  have a2:=at_keep a K2
  have s2:=Mem.new_size M1 (.cells #[.int .i64 w,.int .i64 e] 23)
  generalize M1.new (.cells #[.int .i64 w,.int .i64 e] 23)=M2 at s K2 a2 s2 ⊢
  have T2:=K1.trans K2
  refine ldA a2 rfl (Cn.mono (c18 (fb hf T2) hn hb (hR.keep T2)) ?_)
  rintro _ M3 ⟨A',c',rfl,K3,R3,B3⟩
  have T3:=T2.trans K3
  generalize hg:({ h with A:=A',c:=c' }:Hd)=g
  have gn:g.n=X.length:=by rw [← hg]; exact hn
  have gb:g.n≤1048576:=by rw [← hg]; exact hb
  have gA:g.A=A':=by rw [← hg]
  have gs:g.same X h X=true:=by rw [← hg]; exact same_refl ..
  have gm:g.may X w e=h.may X w e:=by rw [← hg]; rfl
  have gw:wB g X w e=wB h X w e:=by rw [← hg]; rfl
  rw [← gA] at R3 B3
  clear hg gA
  refine ty rfl (ac0 rfl (stN (cs:=g.cs) (fb hf T3) rfl rfl rfl fun M4 K4 n4 b4=>?_))
  have T4:=T3.trans K4
  have a4:=at_keep (at_keep a2 K3) K4
  have s4:=at_keep (at_keep s K3) K4
  refine Cn.mono c19 ?_
  rintro _ M5 ⟨rfl,K5,n5,W5⟩
  refine ty rfl (Cn.mono c20 ?_)
  rintro _ M6 ⟨rfl,K6,n6,W6⟩
  have T6:=(T4.trans K5).trans K6
  have z2:=T2.size
  have z3:=K3.size
  have f6:=fb hf T6
  have T2f:=T6.floor
  have W:Two (fun _=>False) (fun _=>False) M6 M4.nb.size M5.nb.size [] []:=by
    refine ⟨⟨(W5.keep K6).shrink (fun i _ h=>h.elim) fun hu=>hu.elim id fun q=>by omega,fun i hi=>hi.elim False.elim fun q=>by omega,f6,fun i hi=>hi.elim⟩,⟨W6.shrink (fun i _ h=>h.elim) fun hu=>hu.elim id fun q=>by omega,fun i hi=>hi.elim False.elim fun q=>by omega,f6,fun i hi=>hi.elim⟩,fun i hi=>hi.elim,id,id,by omega⟩
  have b6:=at_keep (at_keep b4 K5) K6
  have a6:=at_keep (at_keep a4 K5) K6
  have s6:=at_keep (at_keep s4 K5) K6
  have R6:=((R3.keep K4).keep K5).keep K6
  have l0:=lt_of_at a
  have l1:=lt_of_at s
  have F6:FarW (fun _=>False) M4.nb.size M6 g.A∧FarW (fun _=>False) M5.nb.size M6 g.A:=⟨fun y hy=>.inr ⟨by have:=B3 y hy; omega,id,by have:=B3 y hy; omega⟩,fun y hy=>.inr ⟨by have:=B3 y hy; omega,id,by have:=B3 y hy; omega⟩⟩
  have FH6:FarW (fun _=>False) M4.nb.size M6 h.A∧FarW (fun _=>False) M5.nb.size M6 h.A:=⟨fun y hy=>(hO y hy).imp id fun q=>⟨by omega,id,by omega⟩,fun y hy=>(hO y hy).imp id fun q=>⟨by omega,id,by omega⟩⟩
  have H6:=hR.keep T6
  have d0:M.nb.size≠M4.nb.size∧M.nb.size≠M5.nb.size:=by omega
  have d1:M1.nb.size≠M4.nb.size∧M1.nb.size≠M5.nb.size:=by omega
  have d2:M3.nb.size≠M4.nb.size∧M3.nb.size≠M5.nb.size:=by omega
  generalize hjg:M3.nb.size=jg at b6 d2 ⊢
  generalize hjh:M.nb.size=jh at a6 d0 ⊢
  generalize hjs:M1.nb.size=js at s6 d1 ⊢
  generalize hjp:M4.nb.size=jp at W F6 FH6 d0 d1 d2 ⊢
  generalize hjq:M5.nb.size=jq at W F6 FH6 d0 d1 d2 ⊢
  refine ty rfl (cF rfl (Cn.eq (c21 hx (by decide)) (ty rfl ?_)))
  generalize brg x 9=t
  have wl:=wF_len 0 t
  generalize hwf:wFixed [] 0 t=wf at wl
  refine Cn.mono (c22 W.p.flw W.p.dev (v:=0) rfl (by decide) t (by simp)) ?_
  rw [hwf]
  rintro _ M7 ⟨rfl,C7,D7⟩
  obtain ⟨U7,E7,P7⟩:=W.p.of C7 D7
  have W7:=W.stepP E7 P7
  have b7:=E7.at b6 id d2.1
  have a7:=E7.at a6 id d0.1
  have s7:=E7.at s6 id d1.1
  have F7:=F6.1.ext E7
  have R7:=F6.1.row R6 E7
  have G7:FarW (fun _=>False) jq M7 g.A:=F6.2.big E7.chg.size
  have FH7:=FH6.1.ext E7
  have H7:=FH6.1.row H6 E7
  have T7:Keep M M7:=Keep.step T6 E7.chg fun i hi=>by rcases hi with h | h; exact h.elim; omega
  have GH7:FarW (fun _=>False) jq M7 h.A:=FH6.2.big E7.chg.size
  refine ty rfl (Cn.mono (c23 W7.q.flw W7.q.dev (v:=0) rfl (by decide) t (by simp)) ?_)
  rw [hwf]
  rintro _ M8 ⟨rfl,C8,D8⟩
  obtain ⟨V8,E8,Q8⟩:=W7.q.of C8 D8
  have W8:=W7.stepQ E8 Q8
  have b8:=E8.at b7.1 id d2.2
  have a8:=E8.at a7.1 id d0.2
  have s8:=E8.at s7.1 id d1.2
  have F8:FarW U7 jp M8 g.A:=F7.big E8.chg.size
  have G8:=G7.ext E8
  have R8:=G7.row R7 E8
  have FH8:FarW U7 jp M8 h.A:=FH7.big E8.chg.size
  have GH8:=GH7.ext E8
  have H8:=GH7.row H7 E8
  have T8:Keep M M8:=Keep.step T7 E8.chg fun i hi=>by rcases hi with h | h; exact h.elim; omega
  refine ty rfl (ldA b8.1 rfl (on (int_of s8.1 rfl) (on (int_of s8.1 rfl) (Cn.mono (c24 W8.p (by omega) gn gb R8 F8) ?_))))
  rw [gm,gw]
  rintro _ M9 ⟨rfl,U9,E9,P9⟩
  have W9:=W8.stepP E9 P9
  have b9:=E9.at b8.1 b7.2 d2.1
  have a9:=E9.at a8.1 a7.2 d0.1
  have s9:=E9.at s8.1 s7.2 d1.1
  have R9:=F8.row R8 E9
  have H9:=FH8.row H8 E9
  have z6:=T6.size
  have z7:=T7.size
  have T9:Keep M M9:=Keep.step T8 E9.chg fun i hi=>by
    rcases hi with h | h
    · rcases E7.sub i h with h | h
      · exact h.elim
      · omega
    · omega
  have GH9:FarW V8 jq M9 h.A:=GH8.big E9.chg.size
  have G9:FarW V8 jq M9 g.A:=G8.big E9.chg.size
  refine ty rfl (ldA a9.1 rfl (on (int_of s9.1 rfl) (on (int_of s9.1 rfl) (Cn.mono (c25 W9.q (by omega) hn hb H9 GH9) ?_))))
  rintro _ M10 ⟨rfl,V10,E10,Q10⟩
  have W10:=W9.stepQ E10 Q10
  have b10:=E10.at b9.1 b8.2 d2.2
  have a10:=E10.at a9.1 a8.2 d0.2
  have s10:=E10.at s9.1 s8.2 d1.2
  have R10:=G9.row R9 E10
  have H10:=GH9.row H9 E10
  have T10:Keep M M10:=Keep.step T9 E10.chg fun i hi=>by
    rcases hi with h | h
    · rcases E8.sub i h with h | h
      · exact h.elim
      · omega
    · omega
  refine ty rfl (ldA b10.1 rfl (on (int_of s10.1 rfl) (on (int_of s10.1 rfl) (ldA a10.1 rfl (on (int_of s10.1 rfl) (on (int_of s10.1 rfl) (Cn.mono (c26 (M:={ M10 with floor:=M10.nb.size }) (Nat.le_refl _) gn gb R10) ?_)))))))
  rw [gm]
  rintro _ M11 ⟨rfl,K11⟩
  have K11':Keep M10 { M11 with floor:=M10.floor }:=K11.unfl
  refine ty rfl ?_
  generalize { M11 with floor:=M10.floor }=M12 at K11' ⊢
  have f12:M12.floor≤M12.nb.size:=fb W10.p.fs K11'
  refine Cn.mono (c27 f12 hn hb (H10.keep K11')) ?_
  rintro _ M13 ⟨rfl,K13⟩
  have K1013:=K11'.trans K13
  have W13:=W10.keep K1013
  have b13:=at_keep b10.1 K1013
  have a13:=at_keep a10.1 K1013
  have R13:=R10.keep K1013
  have H13:=H10.keep K1013
  refine ty rfl ?_
  simp only [BEq.rfl]
  refine cT rfl (w4_1 (cT rfl (Cn.mono (c28 W13.p.dev W13.p.fs) ?_)))
  rintro _ M14 ⟨A14,c14,rfl,K14,O14,_⟩
  refine ty rfl (Cn.mono (c29 (W13.keep K14).q.dev (W13.keep K14).q.fs) ?_)
  rintro _ M15 ⟨A15,c15,rfl,K15,O15⟩
  have T15:=K14.trans K15
  have pl:(pack (wf.2 ++ wB h X w e)).length≤4611686018427387904:=by have:=W13.p.dev.len; rw [pack_len]; omega
  refine ty rfl (Cn.eq (c16 (O14.row.keep K15) O15.row rfl rfl pl) (ty rfl ?_))
  rw [decide_eq_true rfl]
  refine w4_2 (cT rfl (ad rfl (ldA (at_keep b13 T15) rfl (ad rfl (ldA (at_keep a13 T15) rfl (Cn.mono (c30 (W13.keep T15).p.fs gn hn gb (R13.keep T15) (H13.keep T15)) ?_))))))
  rw [gs]
  rintro _ M16 ⟨rfl,K16⟩
  exact ty rfl (w4_3 (cT rfl (Cn.known (by rfl) (ty rfl ⟨rfl,((T10.trans K1013).trans T15).trans K16⟩))))
end
section
variable {U S:Nat→Prop} {M N M0:Mem} {jd jq p:Nat} {b:List Nat} {w e:Int} {h g:Hd} {X Y:List Sg}
set_option maxHeartbeats 1000000 in
theorem c5k {x:Int} {A:Option Addr} {n c:Nat} (hx : -9223372036854775808≤x∧x≤9223372036854775807) (hf:M.floor≤M.nb.size) (hR:Row M A (U8 b)) (hn:n=b.length) (hb:b.length≤4294967296) (hB:Byt b):
    Cn Try.prog 5 #[.slice A n c,.agg #[.int .i64 w,.int .i64 e],.int .i64 x] M fun v N=>v=.bool true∧Keep M N:=by
  have s:=Mem.new_at M (.cells #[.int .i64 w,.int .i64 e] 23)
  have K1:Keep M (M.new (.cells #[.int .i64 w,.int .i64 e] 23)):=.new _ _
  have s1:=Mem.new_size M (.cells #[.int .i64 w,.int .i64 e] 23)
  refine w5_0 ?_
  generalize M.new (.cells #[.int .i64 w,.int .i64 e] 23)=M1 at s K1 s1 ⊢
  refine Cn.mono (c31 (fb hf K1) (hR.keep K1) hn.symm (by omega) hB) ?_
  rintro _ M2 ⟨jd,rfl,K2,d1,d2,D⟩
  have T2:=K1.trans K2
  refine ty rfl (Cn.mono (c32 (fb hf T2) (hR.keep T2) hn hb hB) ?_)
  rintro _ M3 ⟨jq,rfl,K3,q1,q2,E⟩
  have T3:=T2.trans K3
  have D3:=D.keep K3
  have f3:M3.floor≤M.nb.size:=by rw [T3.floor]; exact hf
  have s3:=at_keep (at_keep s K2) K3
  refine ty rfl (cF rfl (Cn.eq (c21 hx (by decide)) (ty rfl ?_)))
  generalize brg x 9=t
  refine Cn.mono (c33 D3 (by omega) t) ?_
  rintro _ M4 ⟨rfl,C4,z4,D4⟩
  have E4:=E.chg C4 (by omega) fun i hi h=>by omega
  have s4:=at_chg s3 C4 (by omega)
  refine ty rfl (ty rfl (ty rfl (Cn.mono (c34 E4 (by rw [C4.floor]; omega) t) ?_)))
  rintro _ M5 ⟨rfl,C5,z5,E5⟩
  have D5:=D4.chg C5 (by omega) fun i hi h=>by omega
  have s5:=at_chg s4 C5 (by omega)
  generalize (rFixed b 0 t).2.2=p at D5 E5
  have T5:Keep M M5:=Keep.step (Keep.step T3 C4 fun i hi=>by have:=T2.size; have:=T3.size; omega) C5 fun i hi=>by have:=T2.size; have:=T3.size; omega
  have zz2:=T2.size
  have zz1:=K1.size
  have f5:M5.floor≤M.nb.size:=by rw [C5.floor,C4.floor]; exact f3
  refine ty rfl (ty rfl (ty rfl (on (int_of s5 rfl) (on (int_of s5 rfl) (Cn.mono (u35 D5 (by omega) (by omega) (fun i hi=>by omega) (fun i hi=>by omega)) ?_)))))
  rintro _ M6 ⟨h,Y,f,q,U',rfl,L1,C6,D6,u1,u2,hn6,R6,A6⟩
  have z6:=C6.size
  have E6:=E5.chg C6 (by omega) fun i hi h=>by omega
  have s6:=at_chg s5 C6 (by omega)
  have T6:Keep M M6:=Keep.step T5 C6 fun i hi=>by have:=T5.size; omega
  refine ty rfl (ty rfl (ac0 rfl (ty rfl (ty rfl (ac0 rfl (stN (cs:=h.cs) (by rw [C6.floor]; omega) rfl rfl rfl fun M7 K7 z7 b7=>?_))))))
  have D7:=D6.keep K7
  have E7:=E6.keep K7
  have s7:=at_keep s6 K7
  refine on (int_of s7 rfl) (on (int_of s7 rfl) (Cn.mono (u36 E7 (by rw [K7.floor,C6.floor]; omega) (by rw [K7.floor,C6.floor]; omega) fun i hi=>hi.2) ?_))
  rintro _ M8 ⟨g,Z,f',q',rfl,L2,C8,E8,gn8,R8⟩
  have z8:=C8.size
  have T8:Keep M M8:=Keep.step (T6.trans K7) C8 fun i hi=>by have:=T6.size; have:=K7.size; omega
  have nuq:∀ i,U' i→i≠jq:=fun i hi h=>by
    rcases u1 i hi with h' | h'
    · omega
    · omega
  have D8:=D7.chg C8 (by omega) fun i hi h=>nuq i hi h
  have b8:=at_chg b7 C8 (by omega)
  have RY:=(R6.keep K7).chg C8 fun a ha=>(A6 a ha).imp id fun h1 h2=>by omega
  obtain ⟨ef,eq,es,eY⟩:=ln_same L1 L2 hn6 gn8
  have lZ:=L2.len
  subst ef eq eY
  have f8:M8.floor≤M.nb.size:=by rw [C8.floor,K7.floor,C6.floor]; exact f5
  refine ty rfl (ty rfl (ac0 rfl (ty rfl (ty rfl (ac0 rfl (stN (cs:=g.cs) (by omega) rfl rfl rfl fun M9 K9 z9 b9=>?_))))))
  have RY9:=RY.keep K9
  have RZ9:=R8.keep K9
  simp only [BEq.rfl]
  have b9':=at_keep b8 K9
  have f9:M9.floor≤M9.nb.size:=by rw [K9.floor]; omega
  refine cT rfl (ldA b9' rfl (ldA b9 rfl (Cn.mono (c30 f9 hn6 gn8 (by omega) RY9 RZ9) ?_)))
  rw [es]
  rintro _ M10 ⟨rfl,K10⟩
  have D10:=(D8.keep K9).keep K10
  have E10:=(E8.keep K9).keep K10
  refine ty rfl (w5_1 (cT rfl (Cn.eq (c37 D10) (ty rfl (Cn.eq (c38 E10) (ty rfl ?_))))))
  simp only [BEq.rfl]
  exact w5_2 (cT rfl (Cn.known (by rfl) (ty rfl ⟨rfl,(T8.trans K9).trans K10⟩)))
end
end Go.Zt

/- The functions' walks: for each function and each loop a rule of what it comes to. Printed by zw2.py. -/
set_option linter.unusedVariables false
set_option maxRecDepth 100000
namespace Go.Zt
open Go Go.Sim Go.Proofs
def K6:List (List It × List Nat):=[([.code [1,1,1,1,1,0,1],.code [1,1,1,1,1,1]],[0,3,52]),([.code [1,1,1,1,1,1,1,1,0,1,0,0],.lp [1,1,1,1,1,1,1,1,0,1,0,0],.blk 0,.code [1,1,1,1,1,1,1,1,1]],[0,3,11,12,13]),([.code [1,1,1,1,1,1,1,1,0,1,0,0,0,1],.code [1,1,1,1,1,1,1,1,0,1,0,0,1],.lp [1,1,1,1,1,1,1,1,0,1,0,0],.blk 0,.code [1,1,1,1,1,1,1,1,1]],[0,3,11,12,13,61]),([.code [1,1,1,1,1,1,1,1,0,1,0,0,1,1],.lp [1,1,1,1,1,1,1,1,0,1,0,0],.blk 0,.code [1,1,1,1,1,1,1,1,1]],[0,3,11,12,13]),([.code [1,1,1,1,1,1,1,1,1,1,1,0,1,0,0],.lp [1,1,1,1,1,1,1,1,1,1,1,0,1,0,0],.blk 2,.code [1,1,1,1,1,1,1,1,1,1,1,1]],[3,12,15,16]),([.code [1,1,1,1,1,1,1,1,1,1,1,0,1,0,0,1,0,0,1,1],.blk 3,.code [1,1,1,1,1,1,1,1,1,1,1,0,1,0,0,1,1],.lp [1,1,1,1,1,1,1,1,1,1,1,0,1,0,0],.blk 2,.code [1,1,1,1,1,1,1,1,1,1,1,1]],[3,12,15,16,115]),([.rg [1,1,1,1,1,1,1,1,1,1,1,1,1,0] 7,.code [1,1,1,1,1,1,1,1,1,1,1,1,1,1]],[15,127]),([.rg [1,1,1,1,1,1,1,1,1,1,1,1,1,0] 12,.code [1,1,1,1,1,1,1,1,1,1,1,1,1,1]],[15,132])]
def Z6:List (List Nat × List Nat):=[([1,1,1,1,1,1,1,1,1,1,1,1,1,0],[7,12,17])]
theorem b6:Try.prog.funcs[6]?=some Try.f6∧(Orc.tab Try.prog).lookup 6=none∧Try.f6.body=some (codeOf Try.f6):=⟨by kernel_rfl,by kernel_rfl,by kernel_rfl⟩
def A6_1 (Ax0:Option Addr) (lx0 cx0:Nat) (x3:Option Addr) (x52:Bool) (M:Mem) (Q:Value→Mem→Prop):Prop:=LvP Try.prog Try.f6 [(0,.slice Ax0 lx0 cx0),(3,.pointer x3),(52,.bool x52)] [.code [1,1,1,1,1,0,1],.code [1,1,1,1,1,1]] M Q
def A6_2 (Ax0:Option Addr) (lx0 cx0:Nat) (x3 x11 Ax12:Option Addr) (lx12 cx12:Nat) (x13:Int) (M:Mem) (Q:Value→Mem→Prop):Prop:=LvP Try.prog Try.f6 [(0,.slice Ax0 lx0 cx0),(3,.pointer x3),(11,.pointer x11),(12,.slice Ax12 lx12 cx12),(13,.int .i64 x13)] [.code [1,1,1,1,1,1,1,1,0,1,0,0],.lp [1,1,1,1,1,1,1,1,0,1,0,0],.blk 0,.code [1,1,1,1,1,1,1,1,1]] M Q
def A6_3 (Ax0:Option Addr) (lx0 cx0:Nat) (x3 x11 Ax12:Option Addr) (lx12 cx12:Nat) (x13:Int) (x61:Bool) (M:Mem) (Q:Value→Mem→Prop):Prop:=LvP Try.prog Try.f6 [(0,.slice Ax0 lx0 cx0),(3,.pointer x3),(11,.pointer x11),(12,.slice Ax12 lx12 cx12),(13,.int .i64 x13),(61,.bool x61)] [.code [1,1,1,1,1,1,1,1,0,1,0,0,0,1],.code [1,1,1,1,1,1,1,1,0,1,0,0,1],.lp [1,1,1,1,1,1,1,1,0,1,0,0],.blk 0,.code [1,1,1,1,1,1,1,1,1]] M Q
def A6_4 (Ax0:Option Addr) (lx0 cx0:Nat) (x3 x11 Ax12:Option Addr) (lx12 cx12:Nat) (x13:Int) (M:Mem) (Q:Value→Mem→Prop):Prop:=LvP Try.prog Try.f6 [(0,.slice Ax0 lx0 cx0),(3,.pointer x3),(11,.pointer x11),(12,.slice Ax12 lx12 cx12),(13,.int .i64 x13)] [.code [1,1,1,1,1,1,1,1,0,1,0,0,1,1],.lp [1,1,1,1,1,1,1,1,0,1,0,0],.blk 0,.code [1,1,1,1,1,1,1,1,1]] M Q
def A6_5 (x3 Ax12:Option Addr) (lx12 cx12:Nat) (x15:Option Addr) (x16:Int) (M:Mem) (Q:Value→Mem→Prop):Prop:=LvP Try.prog Try.f6 [(3,.pointer x3),(12,.slice Ax12 lx12 cx12),(15,.pointer x15),(16,.int .i64 x16)] [.code [1,1,1,1,1,1,1,1,1,1,1,0,1,0,0],.lp [1,1,1,1,1,1,1,1,1,1,1,0,1,0,0],.blk 2,.code [1,1,1,1,1,1,1,1,1,1,1,1]] M Q
def A6_6 (x3 Ax12:Option Addr) (lx12 cx12:Nat) (x15:Option Addr) (x16:Int) (x115:Bool) (M:Mem) (Q:Value→Mem→Prop):Prop:=LvP Try.prog Try.f6 [(3,.pointer x3),(12,.slice Ax12 lx12 cx12),(15,.pointer x15),(16,.int .i64 x16),(115,.bool x115)] [.code [1,1,1,1,1,1,1,1,1,1,1,0,1,0,0,1,0,0,1,1],.blk 3,.code [1,1,1,1,1,1,1,1,1,1,1,0,1,0,0,1,1],.lp [1,1,1,1,1,1,1,1,1,1,1,0,1,0,0],.blk 2,.code [1,1,1,1,1,1,1,1,1,1,1,1]] M Q
def A6_7 (x15:Option Addr) (x127:Bool) (M:Mem) (Q:Value→Mem→Prop):Prop:=LvP Try.prog Try.f6 [(15,.pointer x15),(127,.bool x127)] [.rg [1,1,1,1,1,1,1,1,1,1,1,1,1,0] 7,.code [1,1,1,1,1,1,1,1,1,1,1,1,1,1]] M Q
def A6_8 (x15:Option Addr) (x132:Bool) (M:Mem) (Q:Value→Mem→Prop):Prop:=LvP Try.prog Try.f6 [(15,.pointer x15),(132,.bool x132)] [.rg [1,1,1,1,1,1,1,1,1,1,1,1,1,0] 12,.code [1,1,1,1,1,1,1,1,1,1,1,1,1,1]] M Q
theorem w6_0 {Ax0:Option Addr} {lx0 cx0:Nat} {x1_0 x1_1:Int} {M:Mem} {Q:Value→Mem→Prop} (H:
 Cn Try.prog 17 #[] (M.new (.cells #[.int .i64 x1_0,.int .i64 x1_1] 23)) fun v1' N1'=>
 tyS (asB v1') fun b2'=>
 cnd (!b2') (
 Q (.bool false) N1') (
 onS (N1'.intAt .i64 (2*M.nb.size) 0) fun x3'=>
 onS (N1'.intAt .i64 (2*M.nb.size) (0+1)) fun x4'=>
 Cn Try.prog 14 #[.agg #[.int .i64 x3',.int .i64 x4']] N1' fun v5' N5'=>
 tyS (asI .i64 v5') fun x6'=>
 cnd (x6' != 0) (
 onS (N5'.intAt .i64 (2*M.nb.size) 0) fun x7'=>
 onS (N5'.intAt .i64 (2*M.nb.size) (0+1)) fun x8'=>
 Cn Try.prog 10 #[.agg #[.int .i64 x7',.int .i64 x8']] N5' fun v9' N9'=>
 tyS (asU 2 v9') fun cs10'=>
 tyS (asS (cs10'.getD 0 undef)) fun s11'=>
 tyS (asI .i64 (cs10'.getD 1 undef)) fun x12'=>
 Q (.bool (x12' == 2)) N9') (
 onS (N5'.intAt .i64 (2*M.nb.size) 0) fun x13'=>
 onS (N5'.intAt .i64 (2*M.nb.size) (0+1)) fun x14'=>
 Cn Try.prog 10 #[.agg #[.int .i64 x13',.int .i64 x14']] N5' fun v15' N15'=>
 tyS (asU 2 v15') fun cs16'=>
 tyS (asS (cs16'.getD 0 undef)) fun s17'=>
 tyS (asI .i64 (cs16'.getD 1 undef)) fun x18'=>
 Cn Try.prog 12 #[.slice s17'.1 s17'.2.1 s17'.2.2] N15' fun v19' N19'=>
 tyS (asU 2 v19') fun cs20'=>
 tyS (asA 2 (cs20'.getD 0 undef)) fun cs21'=>
 tyS (asI .i64 (cs21'.getD 0 undef)) fun x22'=>
 tyS (asI .i64 (cs21'.getD 1 undef)) fun x23'=>
 tyS (asI .i64 (cs20'.getD 1 undef)) fun x24'=>
 stP (some 2) #[.int .i64 x22',.int .i64 x23'] (N19'.new (.cells #[.int .i64 0,.int .i64 0] 23)) (2*N19'.nb.size) 0 fun M25'=>
 cnd (x18' != 0) (
 A6_1 Ax0 lx0 cx0 (some ⟨2*M.nb.size,0,none⟩) true M25' Q) (
 cnd (x24' != 0) (
 A6_1 Ax0 lx0 cx0 (some ⟨2*M.nb.size,0,none⟩) true M25' Q) (
 onS (M25'.intAt .i64 (2*N19'.nb.size) 0) fun x26'=>
 onS (M25'.intAt .i64 (2*N19'.nb.size) (0+1)) fun x27'=>
 onS (M25'.intAt .i64 (2*M.nb.size) 0) fun x28'=>
 onS (M25'.intAt .i64 (2*M.nb.size) (0+1)) fun x29'=>
 puS (binV Try.prog .neq 23 23 (.agg #[.int .i64 x26',.int .i64 x27']) (.agg #[.int .i64 x28',.int .i64 x29'])) fun v30'=>
 tyS (asB v30') fun b31'=>
 A6_1 Ax0 lx0 cx0 (some ⟨2*M.nb.size,0,none⟩) b31' M25' Q))))):
 Cn Try.prog 6 #[.slice Ax0 lx0 cx0,.agg #[.int .i64 x1_0,.int .i64 x1_1]] M Q:=
 Cn.mk (cuts:=K6) (sp:=Z6) 900 b6 rfl rfl H fun G=>by kernel_rfl
theorem w6_1 {Ax0:Option Addr} {lx0 cx0:Nat} {x3:Option Addr} {x52:Bool} {M:Mem} {Q:Value→Mem→Prop} (H:
 cnd x52 (
 Q (.bool false) M) (
 Cn Try.prog 19 #[] M fun v32' N32'=>
 tyS (asP v32') fun p33'=>
 A6_2 Ax0 lx0 cx0 x3 p33' none 0 0 0 N32' Q)):
 A6_1 Ax0 lx0 cx0 x3 x52 M Q:=
 LvP.mk (cuts:=K6) (sp:=Z6) 900 H fun G=>by kernel_rfl
theorem w6_2 {Ax0:Option Addr} {lx0 cx0:Nat} {x3 x11 Ax12:Option Addr} {lx12 cx12:Nat} {x13:Int} {M:Mem} {Q:Value→Mem→Prop} (H:
 cnd (decide (x13<((lx0:Int)))) (
 A6_3 Ax0 lx0 cx0 x3 x11 Ax12 lx12 cx12 x13 (decide (x13<8)) M Q) (
 A6_3 Ax0 lx0 cx0 x3 x11 Ax12 lx12 cx12 x13 false M Q)):
 A6_2 Ax0 lx0 cx0 x3 x11 Ax12 lx12 cx12 x13 M Q:=
 LvP.mk (cuts:=K6) (sp:=Z6) 900 H fun G=>by kernel_rfl
theorem w6_3 {Ax0:Option Addr} {lx0 cx0:Nat} {x3 x11 Ax12:Option Addr} {lx12 cx12:Nat} {x13:Int} {x61:Bool} {M:Mem} {Q:Value→Mem→Prop} (H:
 cnd x61 (
 ixS (idxA Ax0 lx0 30 x13) fun a34'=>
 onS (M.boolAt a34'.block a34'.off) fun b35'=>
 onS (M.intAt .i64 a34'.block (a34'.off+1)) fun x36'=>
 onS (M.boolAt a34'.block (a34'.off+2)) fun b37'=>
 onS (M.boolAt a34'.block (a34'.off+3)) fun b38'=>
 onS (M.intAt .i64 a34'.block (a34'.off+4)) fun x39'=>
 onS (M.intAt .i64 a34'.block (a34'.off+5)) fun x40'=>
 onS (M.intAt .i64 a34'.block (a34'.off+6)) fun x41'=>
 onS (M.intAt .i64 a34'.block (a34'.off+7)) fun x42'=>
 onS (M.intAt .i64 a34'.block (a34'.off+8)) fun x43'=>
 onS (M.intAt .i64 a34'.block (a34'.off+9)) fun x44'=>
 onS (M.intAt .i64 a34'.block (a34'.off+10)) fun x45'=>
 onS (M.intAt .i64 a34'.block (a34'.off+11)) fun x46'=>
 onS (M.intAt .i64 a34'.block (a34'.off+12)) fun x47'=>
 onS (M.intAt .i64 a34'.block (a34'.off+13)) fun x48'=>
 onS (M.intAt .i64 a34'.block (a34'.off+14)) fun x49'=>
 onS (M.intAt .i64 a34'.block (a34'.off+15)) fun x50'=>
 onS (M.intAt .i64 a34'.block (a34'.off+16)) fun x51'=>
 onS (M.boolAt a34'.block (a34'.off+17)) fun b52'=>
 onS (M.intAt .i64 a34'.block (a34'.off+18)) fun x53'=>
 onS (M.intAt .i64 a34'.block (a34'.off+19)) fun x54'=>
 onS (M.intAt .i64 a34'.block (a34'.off+20)) fun x55'=>
 onS (M.intAt .i64 a34'.block (a34'.off+21)) fun x56'=>
 onS (M.intAt .i64 a34'.block (a34'.off+22)) fun x57'=>
 onS (M.boolAt a34'.block (a34'.off+23)) fun b58'=>
 onS (M.intAt .i64 a34'.block (a34'.off+24)) fun x59'=>
 onS (M.intAt .i64 a34'.block (a34'.off+25)) fun x60'=>
 onS (M.slAt a34'.block (a34'.off+26)) fun s61'=>
 onS (M.boolAt a34'.block (a34'.off+27)) fun b62'=>
 onS (M.boolAt a34'.block (a34'.off+28)) fun b63'=>
 onS (M.boolAt a34'.block (a34'.off+29)) fun b64'=>
 adS x3 fun a65'=>
 onS (M.intAt .i64 a65'.block a65'.off) fun x66'=>
 onS (M.intAt .i64 a65'.block (a65'.off+1)) fun x67'=>
 Cn Try.prog 24 #[.pointer x11,.agg #[.bool b35',.int .i64 x36',.bool b37',.bool b38',.int .i64 x39',.int .i64 x40',.int .i64 x41',.int .i64 x42',.int .i64 x43',.int .i64 x44',.int .i64 x45',.int .i64 x46',.int .i64 x47',.int .i64 x48',.int .i64 x49',.int .i64 x50',.int .i64 x51',.bool b52',.int .i64 x53',.int .i64 x54',.int .i64 x55',.int .i64 x56',.int .i64 x57',.bool b58',.int .i64 x59',.int .i64 x60',.slice s61'.1 (s61'.2.1) (s61'.2.2),.bool b62',.bool b63',.bool b64'],.agg #[.int .i64 x66',.int .i64 x67']] M fun v68' N68'=>
 tyS (asI .i64 v68') fun x69'=>
 ixS (idxA Ax0 lx0 30 x13) fun a70'=>
 onS (N68'.boolAt a70'.block a70'.off) fun b71'=>
 onS (N68'.intAt .i64 a70'.block (a70'.off+1)) fun x72'=>
 onS (N68'.boolAt a70'.block (a70'.off+2)) fun b73'=>
 onS (N68'.boolAt a70'.block (a70'.off+3)) fun b74'=>
 onS (N68'.intAt .i64 a70'.block (a70'.off+4)) fun x75'=>
 onS (N68'.intAt .i64 a70'.block (a70'.off+5)) fun x76'=>
 onS (N68'.intAt .i64 a70'.block (a70'.off+6)) fun x77'=>
 onS (N68'.intAt .i64 a70'.block (a70'.off+7)) fun x78'=>
 onS (N68'.intAt .i64 a70'.block (a70'.off+8)) fun x79'=>
 onS (N68'.intAt .i64 a70'.block (a70'.off+9)) fun x80'=>
 onS (N68'.intAt .i64 a70'.block (a70'.off+10)) fun x81'=>
 onS (N68'.intAt .i64 a70'.block (a70'.off+11)) fun x82'=>
 onS (N68'.intAt .i64 a70'.block (a70'.off+12)) fun x83'=>
 onS (N68'.intAt .i64 a70'.block (a70'.off+13)) fun x84'=>
 onS (N68'.intAt .i64 a70'.block (a70'.off+14)) fun x85'=>
 onS (N68'.intAt .i64 a70'.block (a70'.off+15)) fun x86'=>
 onS (N68'.intAt .i64 a70'.block (a70'.off+16)) fun x87'=>
 onS (N68'.boolAt a70'.block (a70'.off+17)) fun b88'=>
 onS (N68'.intAt .i64 a70'.block (a70'.off+18)) fun x89'=>
 onS (N68'.intAt .i64 a70'.block (a70'.off+19)) fun x90'=>
 onS (N68'.intAt .i64 a70'.block (a70'.off+20)) fun x91'=>
 onS (N68'.intAt .i64 a70'.block (a70'.off+21)) fun x92'=>
 onS (N68'.intAt .i64 a70'.block (a70'.off+22)) fun x93'=>
 onS (N68'.boolAt a70'.block (a70'.off+23)) fun b94'=>
 onS (N68'.intAt .i64 a70'.block (a70'.off+24)) fun x95'=>
 onS (N68'.intAt .i64 a70'.block (a70'.off+25)) fun x96'=>
 onS (N68'.slAt a70'.block (a70'.off+26)) fun s97'=>
 onS (N68'.boolAt a70'.block (a70'.off+27)) fun b98'=>
 onS (N68'.boolAt a70'.block (a70'.off+28)) fun b99'=>
 onS (N68'.boolAt a70'.block (a70'.off+29)) fun b100'=>
 adS x3 fun a101'=>
 onS (N68'.intAt .i64 a101'.block a101'.off) fun x102'=>
 onS (N68'.intAt .i64 a101'.block (a101'.off+1)) fun x103'=>
 Cn Try.prog 26 #[.agg #[.bool b71',.int .i64 x72',.bool b73',.bool b74',.int .i64 x75',.int .i64 x76',.int .i64 x77',.int .i64 x78',.int .i64 x79',.int .i64 x80',.int .i64 x81',.int .i64 x82',.int .i64 x83',.int .i64 x84',.int .i64 x85',.int .i64 x86',.int .i64 x87',.bool b88',.int .i64 x89',.int .i64 x90',.int .i64 x91',.int .i64 x92',.int .i64 x93',.bool b94',.int .i64 x95',.int .i64 x96',.slice s97'.1 (s97'.2.1) (s97'.2.2),.bool b98',.bool b99',.bool b100'],.agg #[.int .i64 x102',.int .i64 x103']] N68' fun v104' N104'=>
 tyS (asI .i64 v104') fun x105'=>
 cnd (x69' != x105') (
 Q (.bool false) N104') (
 cnd (x69' == 0) (
 ixS (idxA Ax0 lx0 30 x13) fun a106'=>
 onS (N104'.boolAt a106'.block a106'.off) fun b107'=>
 onS (N104'.intAt .i64 a106'.block (a106'.off+1)) fun x108'=>
 onS (N104'.boolAt a106'.block (a106'.off+2)) fun b109'=>
 onS (N104'.boolAt a106'.block (a106'.off+3)) fun b110'=>
 onS (N104'.intAt .i64 a106'.block (a106'.off+4)) fun x111'=>
 onS (N104'.intAt .i64 a106'.block (a106'.off+5)) fun x112'=>
 onS (N104'.intAt .i64 a106'.block (a106'.off+6)) fun x113'=>
 onS (N104'.intAt .i64 a106'.block (a106'.off+7)) fun x114'=>
 onS (N104'.intAt .i64 a106'.block (a106'.off+8)) fun x115'=>
 onS (N104'.intAt .i64 a106'.block (a106'.off+9)) fun x116'=>
 onS (N104'.intAt .i64 a106'.block (a106'.off+10)) fun x117'=>
 onS (N104'.intAt .i64 a106'.block (a106'.off+11)) fun x118'=>
 onS (N104'.intAt .i64 a106'.block (a106'.off+12)) fun x119'=>
 onS (N104'.intAt .i64 a106'.block (a106'.off+13)) fun x120'=>
 onS (N104'.intAt .i64 a106'.block (a106'.off+14)) fun x121'=>
 onS (N104'.intAt .i64 a106'.block (a106'.off+15)) fun x122'=>
 onS (N104'.intAt .i64 a106'.block (a106'.off+16)) fun x123'=>
 onS (N104'.boolAt a106'.block (a106'.off+17)) fun b124'=>
 onS (N104'.intAt .i64 a106'.block (a106'.off+18)) fun x125'=>
 onS (N104'.intAt .i64 a106'.block (a106'.off+19)) fun x126'=>
 onS (N104'.intAt .i64 a106'.block (a106'.off+20)) fun x127'=>
 onS (N104'.intAt .i64 a106'.block (a106'.off+21)) fun x128'=>
 onS (N104'.intAt .i64 a106'.block (a106'.off+22)) fun x129'=>
 onS (N104'.boolAt a106'.block (a106'.off+23)) fun b130'=>
 onS (N104'.intAt .i64 a106'.block (a106'.off+24)) fun x131'=>
 onS (N104'.intAt .i64 a106'.block (a106'.off+25)) fun x132'=>
 onS (N104'.slAt a106'.block (a106'.off+26)) fun s133'=>
 onS (N104'.boolAt a106'.block (a106'.off+27)) fun b134'=>
 onS (N104'.boolAt a106'.block (a106'.off+28)) fun b135'=>
 onS (N104'.boolAt a106'.block (a106'.off+29)) fun b136'=>
 meS (appendP Try.prog #[67,67] (.slice Ax12 lx12 cx12) (.slice (some ⟨2*N104'.nb.size,0,none⟩) 1 1) (N104'.new (.cells #[.bool b107',.int .i64 x108',.bool b109',.bool b110',.int .i64 x111',.int .i64 x112',.int .i64 x113',.int .i64 x114',.int .i64 x115',.int .i64 x116',.int .i64 x117',.int .i64 x118',.int .i64 x119',.int .i64 x120',.int .i64 x121',.int .i64 x122',.int .i64 x123',.bool b124',.int .i64 x125',.int .i64 x126',.int .i64 x127',.int .i64 x128',.int .i64 x129',.bool b130',.int .i64 x131',.int .i64 x132',.slice s133'.1 (s133'.2.1) (s133'.2.2),.bool b134',.bool b135',.bool b136'] 41))) fun r137'=>
 tyS (asS r137'.1) fun s138'=>
 A6_4 Ax0 lx0 cx0 x3 x11 s138'.1 s138'.2.1 s138'.2.2 x13 r137'.2 Q) (
 A6_4 Ax0 lx0 cx0 x3 x11 Ax12 lx12 cx12 x13 N104' Q))) (
 Cn Try.prog 22 #[.pointer x11,.int .u32 1,.int .i64 1] M fun v139' N139'=>
 tyS (asI .i64 v139') fun x140'=>
 Cn Try.prog 28 #[.pointer x11] N139' fun v141' N141'=>
 tyS (asS v141') fun s142'=>
 Cn Try.prog 31 #[.slice s142'.1 (s142'.2.1) (s142'.2.2)] N141' fun v143' N143'=>
 tyS (asP v143') fun p144'=>
 A6_5 x3 Ax12 lx12 cx12 p144' 0 N143' Q)):
 A6_3 Ax0 lx0 cx0 x3 x11 Ax12 lx12 cx12 x13 x61 M Q:=
 LvP.mk (cuts:=K6) (sp:=Z6) 900 H fun G=>by kernel_rfl
theorem w6_4 {Ax0:Option Addr} {lx0 cx0:Nat} {x3 x11 Ax12:Option Addr} {lx12 cx12:Nat} {x13:Int} {M:Mem} {Q:Value→Mem→Prop} (H:
 A6_2 Ax0 lx0 cx0 x3 x11 Ax12 lx12 cx12 (IntKind.i64.wrap (x13+1)) M Q):
 A6_4 Ax0 lx0 cx0 x3 x11 Ax12 lx12 cx12 x13 M Q:=
 LvP.mk (cuts:=K6) (sp:=Z6) 900 H fun G=>by kernel_rfl
theorem w6_5 {x3 Ax12:Option Addr} {lx12 cx12:Nat} {x15:Option Addr} {x16:Int} {M:Mem} {Q:Value→Mem→Prop} (H:
 cnd (decide (x16<((lx12:Int)))) (
 adS x3 fun a145'=>
 onS (M.intAt .i64 a145'.block a145'.off) fun x146'=>
 onS (M.intAt .i64 a145'.block (a145'.off+1)) fun x147'=>
 Cn Try.prog 35 #[.pointer x15,.agg #[.int .i64 x146',.int .i64 x147']] M fun v148' N148'=>
 tyS (asU 2 v148') fun cs149'=>
 tyS (asA 30 (cs149'.getD 0 undef)) fun cs150'=>
 tyS (asB (cs150'.getD 0 undef)) fun b151'=>
 tyS (asI .i64 (cs150'.getD 1 undef)) fun x152'=>
 tyS (asB (cs150'.getD 2 undef)) fun b153'=>
 tyS (asB (cs150'.getD 3 undef)) fun b154'=>
 tyS (asI .i64 (cs150'.getD 4 undef)) fun x155'=>
 tyS (asI .i64 (cs150'.getD 5 undef)) fun x156'=>
 tyS (asI .i64 (cs150'.getD 6 undef)) fun x157'=>
 tyS (asI .i64 (cs150'.getD 7 undef)) fun x158'=>
 tyS (asI .i64 (cs150'.getD 8 undef)) fun x159'=>
 tyS (asI .i64 (cs150'.getD 9 undef)) fun x160'=>
 tyS (asI .i64 (cs150'.getD 10 undef)) fun x161'=>
 tyS (asI .i64 (cs150'.getD 11 undef)) fun x162'=>
 tyS (asI .i64 (cs150'.getD 12 undef)) fun x163'=>
 tyS (asI .i64 (cs150'.getD 13 undef)) fun x164'=>
 tyS (asI .i64 (cs150'.getD 14 undef)) fun x165'=>
 tyS (asI .i64 (cs150'.getD 15 undef)) fun x166'=>
 tyS (asI .i64 (cs150'.getD 16 undef)) fun x167'=>
 tyS (asB (cs150'.getD 17 undef)) fun b168'=>
 tyS (asI .i64 (cs150'.getD 18 undef)) fun x169'=>
 tyS (asI .i64 (cs150'.getD 19 undef)) fun x170'=>
 tyS (asI .i64 (cs150'.getD 20 undef)) fun x171'=>
 tyS (asI .i64 (cs150'.getD 21 undef)) fun x172'=>
 tyS (asI .i64 (cs150'.getD 22 undef)) fun x173'=>
 tyS (asB (cs150'.getD 23 undef)) fun b174'=>
 tyS (asI .i64 (cs150'.getD 24 undef)) fun x175'=>
 tyS (asI .i64 (cs150'.getD 25 undef)) fun x176'=>
 tyS (asS (cs150'.getD 26 undef)) fun s177'=>
 tyS (asB (cs150'.getD 27 undef)) fun b178'=>
 tyS (asB (cs150'.getD 28 undef)) fun b179'=>
 tyS (asB (cs150'.getD 29 undef)) fun b180'=>
 tyS (asI .i64 (cs149'.getD 1 undef)) fun x181'=>
 stP (some 30) #[.bool b151',.int .i64 x152',.bool b153',.bool b154',.int .i64 x155',.int .i64 x156',.int .i64 x157',.int .i64 x158',.int .i64 x159',.int .i64 x160',.int .i64 x161',.int .i64 x162',.int .i64 x163',.int .i64 x164',.int .i64 x165',.int .i64 x166',.int .i64 x167',.bool b168',.int .i64 x169',.int .i64 x170',.int .i64 x171',.int .i64 x172',.int .i64 x173',.bool b174',.int .i64 x175',.int .i64 x176',.slice s177'.1 (s177'.2.1) (s177'.2.2),.bool b178',.bool b179',.bool b180'] (N148'.new (.cells #[.bool false,.int .i64 0,.bool false,.bool false,.int .i64 0,.int .i64 0,.int .i64 0,.int .i64 0,.int .i64 0,.int .i64 0,.int .i64 0,.int .i64 0,.int .i64 0,.int .i64 0,.int .i64 0,.int .i64 0,.int .i64 0,.bool false,.int .i64 0,.int .i64 0,.int .i64 0,.int .i64 0,.int .i64 0,.bool false,.int .i64 0,.int .i64 0,.slice none 0 0,.bool false,.bool false,.bool false] 41)) (2*N148'.nb.size) 0 fun M182'=>
 cnd (x181' != 0) (
 A6_6 x3 Ax12 lx12 cx12 x15 x16 true M182' Q) (
 onS (M182'.boolAt (2*N148'.nb.size) 0) fun b183'=>
 onS (M182'.intAt .i64 (2*N148'.nb.size) (0+1)) fun x184'=>
 onS (M182'.boolAt (2*N148'.nb.size) (0+2)) fun b185'=>
 onS (M182'.boolAt (2*N148'.nb.size) (0+3)) fun b186'=>
 onS (M182'.intAt .i64 (2*N148'.nb.size) (0+4)) fun x187'=>
 onS (M182'.intAt .i64 (2*N148'.nb.size) (0+5)) fun x188'=>
 onS (M182'.intAt .i64 (2*N148'.nb.size) (0+6)) fun x189'=>
 onS (M182'.intAt .i64 (2*N148'.nb.size) (0+7)) fun x190'=>
 onS (M182'.intAt .i64 (2*N148'.nb.size) (0+8)) fun x191'=>
 onS (M182'.intAt .i64 (2*N148'.nb.size) (0+9)) fun x192'=>
 onS (M182'.intAt .i64 (2*N148'.nb.size) (0+10)) fun x193'=>
 onS (M182'.intAt .i64 (2*N148'.nb.size) (0+11)) fun x194'=>
 onS (M182'.intAt .i64 (2*N148'.nb.size) (0+12)) fun x195'=>
 onS (M182'.intAt .i64 (2*N148'.nb.size) (0+13)) fun x196'=>
 onS (M182'.intAt .i64 (2*N148'.nb.size) (0+14)) fun x197'=>
 onS (M182'.intAt .i64 (2*N148'.nb.size) (0+15)) fun x198'=>
 onS (M182'.intAt .i64 (2*N148'.nb.size) (0+16)) fun x199'=>
 onS (M182'.boolAt (2*N148'.nb.size) (0+17)) fun b200'=>
 onS (M182'.intAt .i64 (2*N148'.nb.size) (0+18)) fun x201'=>
 onS (M182'.intAt .i64 (2*N148'.nb.size) (0+19)) fun x202'=>
 onS (M182'.intAt .i64 (2*N148'.nb.size) (0+20)) fun x203'=>
 onS (M182'.intAt .i64 (2*N148'.nb.size) (0+21)) fun x204'=>
 onS (M182'.intAt .i64 (2*N148'.nb.size) (0+22)) fun x205'=>
 onS (M182'.boolAt (2*N148'.nb.size) (0+23)) fun b206'=>
 onS (M182'.intAt .i64 (2*N148'.nb.size) (0+24)) fun x207'=>
 onS (M182'.intAt .i64 (2*N148'.nb.size) (0+25)) fun x208'=>
 onS (M182'.slAt (2*N148'.nb.size) (0+26)) fun s209'=>
 onS (M182'.boolAt (2*N148'.nb.size) (0+27)) fun b210'=>
 onS (M182'.boolAt (2*N148'.nb.size) (0+28)) fun b211'=>
 onS (M182'.boolAt (2*N148'.nb.size) (0+29)) fun b212'=>
 ixS (idxA Ax12 lx12 30 x16) fun a213'=>
 onS (M182'.boolAt a213'.block a213'.off) fun b214'=>
 onS (M182'.intAt .i64 a213'.block (a213'.off+1)) fun x215'=>
 onS (M182'.boolAt a213'.block (a213'.off+2)) fun b216'=>
 onS (M182'.boolAt a213'.block (a213'.off+3)) fun b217'=>
 onS (M182'.intAt .i64 a213'.block (a213'.off+4)) fun x218'=>
 onS (M182'.intAt .i64 a213'.block (a213'.off+5)) fun x219'=>
 onS (M182'.intAt .i64 a213'.block (a213'.off+6)) fun x220'=>
 onS (M182'.intAt .i64 a213'.block (a213'.off+7)) fun x221'=>
 onS (M182'.intAt .i64 a213'.block (a213'.off+8)) fun x222'=>
 onS (M182'.intAt .i64 a213'.block (a213'.off+9)) fun x223'=>
 onS (M182'.intAt .i64 a213'.block (a213'.off+10)) fun x224'=>
 onS (M182'.intAt .i64 a213'.block (a213'.off+11)) fun x225'=>
 onS (M182'.intAt .i64 a213'.block (a213'.off+12)) fun x226'=>
 onS (M182'.intAt .i64 a213'.block (a213'.off+13)) fun x227'=>
 onS (M182'.intAt .i64 a213'.block (a213'.off+14)) fun x228'=>
 onS (M182'.intAt .i64 a213'.block (a213'.off+15)) fun x229'=>
 onS (M182'.intAt .i64 a213'.block (a213'.off+16)) fun x230'=>
 onS (M182'.boolAt a213'.block (a213'.off+17)) fun b231'=>
 onS (M182'.intAt .i64 a213'.block (a213'.off+18)) fun x232'=>
 onS (M182'.intAt .i64 a213'.block (a213'.off+19)) fun x233'=>
 onS (M182'.intAt .i64 a213'.block (a213'.off+20)) fun x234'=>
 onS (M182'.intAt .i64 a213'.block (a213'.off+21)) fun x235'=>
 onS (M182'.intAt .i64 a213'.block (a213'.off+22)) fun x236'=>
 onS (M182'.boolAt a213'.block (a213'.off+23)) fun b237'=>
 onS (M182'.intAt .i64 a213'.block (a213'.off+24)) fun x238'=>
 onS (M182'.intAt .i64 a213'.block (a213'.off+25)) fun x239'=>
 onS (M182'.slAt a213'.block (a213'.off+26)) fun s240'=>
 onS (M182'.boolAt a213'.block (a213'.off+27)) fun b241'=>
 onS (M182'.boolAt a213'.block (a213'.off+28)) fun b242'=>
 onS (M182'.boolAt a213'.block (a213'.off+29)) fun b243'=>
 Cn Try.prog 39 #[.agg #[.bool b183',.int .i64 x184',.bool b185',.bool b186',.int .i64 x187',.int .i64 x188',.int .i64 x189',.int .i64 x190',.int .i64 x191',.int .i64 x192',.int .i64 x193',.int .i64 x194',.int .i64 x195',.int .i64 x196',.int .i64 x197',.int .i64 x198',.int .i64 x199',.bool b200',.int .i64 x201',.int .i64 x202',.int .i64 x203',.int .i64 x204',.int .i64 x205',.bool b206',.int .i64 x207',.int .i64 x208',.slice s209'.1 (s209'.2.1) (s209'.2.2),.bool b210',.bool b211',.bool b212'],.agg #[.bool b214',.int .i64 x215',.bool b216',.bool b217',.int .i64 x218',.int .i64 x219',.int .i64 x220',.int .i64 x221',.int .i64 x222',.int .i64 x223',.int .i64 x224',.int .i64 x225',.int .i64 x226',.int .i64 x227',.int .i64 x228',.int .i64 x229',.int .i64 x230',.bool b231',.int .i64 x232',.int .i64 x233',.int .i64 x234',.int .i64 x235',.int .i64 x236',.bool b237',.int .i64 x238',.int .i64 x239',.slice s240'.1 (s240'.2.1) (s240'.2.2),.bool b241',.bool b242',.bool b243']] M182' fun v244' N244'=>
 tyS (asB v244') fun b245'=>
 A6_6 x3 Ax12 lx12 cx12 x15 x16 (!b245') N244' Q)) (
 Cn Try.prog 33 #[.pointer x15,.int .i64 1] M fun v246' N246'=>
 tyS (asU 2 v246') fun cs247'=>
 tyS (asI .u32 (cs247'.getD 0 undef)) fun x248'=>
 tyS (asI .i64 (cs247'.getD 1 undef)) fun x249'=>
 cnd (x249' == 0) (
 A6_7 x15 (x248' == 1) N246' Q) (
 A6_7 x15 false N246' Q))):
 A6_5 x3 Ax12 lx12 cx12 x15 x16 M Q:=
 LvP.mk (cuts:=K6) (sp:=Z6) 900 H fun G=>by kernel_rfl
theorem w6_6 {x3 Ax12:Option Addr} {lx12 cx12:Nat} {x15:Option Addr} {x16:Int} {x115:Bool} {M:Mem} {Q:Value→Mem→Prop} (H:
 cnd x115 (
 Q (.bool false) M) (
 A6_5 x3 Ax12 lx12 cx12 x15 (IntKind.i64.wrap (x16+1)) M Q)):
 A6_6 x3 Ax12 lx12 cx12 x15 x16 x115 M Q:=
 LvP.mk (cuts:=K6) (sp:=Z6) 900 H fun G=>by kernel_rfl
theorem w6_7 {x15:Option Addr} {x127:Bool} {M:Mem} {Q:Value→Mem→Prop} (H:
 cnd x127 (
 Cn Try.prog 40 #[.pointer x15] M fun v250' N250'=>
 tyS (asI .i64 v250') fun x251'=>
 A6_8 x15 (x251' == 0) N250' Q) (
 A6_8 x15 false M Q)):
 A6_7 x15 x127 M Q:=
 LvP.mk (cuts:=K6) (sp:=Z6) 900 H fun G=>by kernel_rfl
theorem w6_8 {x15:Option Addr} {x132:Bool} {M:Mem} {Q:Value→Mem→Prop} (H:
 cnd x132 (
 Cn Try.prog 37 #[.pointer x15] M fun v252' N252'=>
 tyS (asI .i64 v252') fun x253'=>
 Q (.bool (x253' == 0)) N252') (
 Q (.bool false) M)):
 A6_8 x15 x132 M Q:=
 LvP.mk (cuts:=K6) (sp:=Z6) 900 H fun G=>by kernel_rfl
def K39:List (List It × List Nat):=[([.code [1,1,0,1,0,0],.lp [1,1,0,1,0,0],.blk 0,.code [1,1,1]],[2,3,5]),([.rg [1,1,1,0] 13,.code [1,1,1,1]],[2,3,45]),([.rg [1,1,1,0] 20,.code [1,1,1,1]],[2,3,52]),([.rg [1,1,1,0] 27,.code [1,1,1,1]],[2,3,59]),([.rg [1,1,1,0] 34,.code [1,1,1,1]],[2,3,66]),([.rg [1,1,1,0] 41,.code [1,1,1,1]],[2,3,73]),([.code [1,1,1,1]],[2,3,6]),([.rg [1,1,1,1,0] 13,.code [1,1,1,1,1]],[2,3,6,92]),([.rg [1,1,1,1,0] 20,.code [1,1,1,1,1]],[2,3,6,99]),([.rg [1,1,1,1,0] 27,.code [1,1,1,1,1]],[2,3,6,106]),([.code [1,1,1,1,1]],[2,3,6,7]),([.rg [1,1,1,1,1,0] 5,.code [1,1,1,1,1,1]],[2,3,117]),([.rg [1,1,1,1,1,0] 12,.code [1,1,1,1,1,1]],[2,3,124]),([.rg [1,1,1,1,1,0] 19,.code [1,1,1,1,1,1]],[2,3,131]),([.rg [1,1,1,1,1,0] 26,.code [1,1,1,1,1,1]],[2,3,138]),([.rg [1,1,1,1,1,0] 33,.code [1,1,1,1,1,1]],[2,3,145]),([.rg [1,1,1,1,1,0] 40,.code [1,1,1,1,1,1]],[2,3,152])]
def Z39:List (List Nat × List Nat):=[([1,1,1,0],[13,20,27,34,41,48]),([1,1,1,1,0],[13,20,27,34]),([1,1,1,1,1,0],[5,12,19,26,33,40,47])]
theorem b39:Try.prog.funcs[39]?=some Try.f39∧(Orc.tab Try.prog).lookup 39=none∧Try.f39.body=some (codeOf Try.f39):=⟨by kernel_rfl,by kernel_rfl,by kernel_rfl⟩
def A39_1 (x2 x3:Option Addr) (x5:Int) (M:Mem) (Q:Value→Mem→Prop):Prop:=LvP Try.prog Try.f39 [(2,.pointer x2),(3,.pointer x3),(5,.int .i64 x5)] [.code [1,1,0,1,0,0],.lp [1,1,0,1,0,0],.blk 0,.code [1,1,1]] M Q
def A39_2 (x2 x3:Option Addr) (x45:Bool) (M:Mem) (Q:Value→Mem→Prop):Prop:=LvP Try.prog Try.f39 [(2,.pointer x2),(3,.pointer x3),(45,.bool x45)] [.rg [1,1,1,0] 13,.code [1,1,1,1]] M Q
def A39_3 (x2 x3:Option Addr) (x52:Bool) (M:Mem) (Q:Value→Mem→Prop):Prop:=LvP Try.prog Try.f39 [(2,.pointer x2),(3,.pointer x3),(52,.bool x52)] [.rg [1,1,1,0] 20,.code [1,1,1,1]] M Q
def A39_4 (x2 x3:Option Addr) (x59:Bool) (M:Mem) (Q:Value→Mem→Prop):Prop:=LvP Try.prog Try.f39 [(2,.pointer x2),(3,.pointer x3),(59,.bool x59)] [.rg [1,1,1,0] 27,.code [1,1,1,1]] M Q
def A39_5 (x2 x3:Option Addr) (x66:Bool) (M:Mem) (Q:Value→Mem→Prop):Prop:=LvP Try.prog Try.f39 [(2,.pointer x2),(3,.pointer x3),(66,.bool x66)] [.rg [1,1,1,0] 34,.code [1,1,1,1]] M Q
def A39_6 (x2 x3:Option Addr) (x73:Bool) (M:Mem) (Q:Value→Mem→Prop):Prop:=LvP Try.prog Try.f39 [(2,.pointer x2),(3,.pointer x3),(73,.bool x73)] [.rg [1,1,1,0] 41,.code [1,1,1,1]] M Q
def A39_7 (x2 x3:Option Addr) (x6:Bool) (M:Mem) (Q:Value→Mem→Prop):Prop:=LvP Try.prog Try.f39 [(2,.pointer x2),(3,.pointer x3),(6,.bool x6)] [.code [1,1,1,1]] M Q
def A39_8 (x2 x3:Option Addr) (x6 x92:Bool) (M:Mem) (Q:Value→Mem→Prop):Prop:=LvP Try.prog Try.f39 [(2,.pointer x2),(3,.pointer x3),(6,.bool x6),(92,.bool x92)] [.rg [1,1,1,1,0] 13,.code [1,1,1,1,1]] M Q
def A39_9 (x2 x3:Option Addr) (x6 x99:Bool) (M:Mem) (Q:Value→Mem→Prop):Prop:=LvP Try.prog Try.f39 [(2,.pointer x2),(3,.pointer x3),(6,.bool x6),(99,.bool x99)] [.rg [1,1,1,1,0] 20,.code [1,1,1,1,1]] M Q
def A39_10 (x2 x3:Option Addr) (x6 x106:Bool) (M:Mem) (Q:Value→Mem→Prop):Prop:=LvP Try.prog Try.f39 [(2,.pointer x2),(3,.pointer x3),(6,.bool x6),(106,.bool x106)] [.rg [1,1,1,1,0] 27,.code [1,1,1,1,1]] M Q
def A39_11 (x2 x3:Option Addr) (x6 x7:Bool) (M:Mem) (Q:Value→Mem→Prop):Prop:=LvP Try.prog Try.f39 [(2,.pointer x2),(3,.pointer x3),(6,.bool x6),(7,.bool x7)] [.code [1,1,1,1,1]] M Q
def A39_12 (x2 x3:Option Addr) (x117:Bool) (M:Mem) (Q:Value→Mem→Prop):Prop:=LvP Try.prog Try.f39 [(2,.pointer x2),(3,.pointer x3),(117,.bool x117)] [.rg [1,1,1,1,1,0] 5,.code [1,1,1,1,1,1]] M Q
def A39_13 (x2 x3:Option Addr) (x124:Bool) (M:Mem) (Q:Value→Mem→Prop):Prop:=LvP Try.prog Try.f39 [(2,.pointer x2),(3,.pointer x3),(124,.bool x124)] [.rg [1,1,1,1,1,0] 12,.code [1,1,1,1,1,1]] M Q
def A39_14 (x2 x3:Option Addr) (x131:Bool) (M:Mem) (Q:Value→Mem→Prop):Prop:=LvP Try.prog Try.f39 [(2,.pointer x2),(3,.pointer x3),(131,.bool x131)] [.rg [1,1,1,1,1,0] 19,.code [1,1,1,1,1,1]] M Q
def A39_15 (x2 x3:Option Addr) (x138:Bool) (M:Mem) (Q:Value→Mem→Prop):Prop:=LvP Try.prog Try.f39 [(2,.pointer x2),(3,.pointer x3),(138,.bool x138)] [.rg [1,1,1,1,1,0] 26,.code [1,1,1,1,1,1]] M Q
def A39_16 (x2 x3:Option Addr) (x145:Bool) (M:Mem) (Q:Value→Mem→Prop):Prop:=LvP Try.prog Try.f39 [(2,.pointer x2),(3,.pointer x3),(145,.bool x145)] [.rg [1,1,1,1,1,0] 33,.code [1,1,1,1,1,1]] M Q
def A39_17 (x2 x3:Option Addr) (x152:Bool) (M:Mem) (Q:Value→Mem→Prop):Prop:=LvP Try.prog Try.f39 [(2,.pointer x2),(3,.pointer x3),(152,.bool x152)] [.rg [1,1,1,1,1,0] 40,.code [1,1,1,1,1,1]] M Q
theorem w39_0 {x0 x1:Array Value} {M:Mem} {Q:Value→Mem→Prop} (H:
 onS (((M.new (.cells x0 41)).new (.cells x1 41)).slAt (2*M.nb.size) (0+26)) fun s1'=>
 onS (((M.new (.cells x0 41)).new (.cells x1 41)).slAt (2*(M.new (.cells x0 41)).nb.size) (0+26)) fun s2'=>
 cnd (((s1'.2.1:Int)) != ((s2'.2.1:Int))) (
 Q (.bool false) ((M.new (.cells x0 41)).new (.cells x1 41))) (
 A39_1 (some ⟨2*M.nb.size,0,none⟩) (some ⟨2*(M.new (.cells x0 41)).nb.size,0,none⟩) 0 ((M.new (.cells x0 41)).new (.cells x1 41)) Q)):
 Cn Try.prog 39 #[.agg x0,.agg x1] M Q:=
 Cn.mk (cuts:=K39) (sp:=Z39) 900 b39 rfl rfl H fun G=>by kernel_rfl
theorem w39_1 {x2 x3:Option Addr} {x5:Int} {M:Mem} {Q:Value→Mem→Prop} (H:
 adS x2 fun a3'=>
 onS (M.slAt a3'.block (a3'.off+26)) fun s4'=>
 cnd (decide (x5<((s4'.2.1:Int)))) (
 adS x2 fun a5'=>
 onS (M.slAt a5'.block (a5'.off+26)) fun s6'=>
 ixS (idxA s6'.1 (s6'.2.1) 4 x5) fun a7'=>
 onS (M.intAt .i64 a7'.block a7'.off) fun x8'=>
 onS (M.intAt .i64 a7'.block (a7'.off+1)) fun x9'=>
 onS (M.intAt .i64 a7'.block (a7'.off+2)) fun x10'=>
 onS (M.intAt .i64 a7'.block (a7'.off+3)) fun x11'=>
 adS x3 fun a12'=>
 onS (M.slAt a12'.block (a12'.off+26)) fun s13'=>
 ixS (idxA s13'.1 (s13'.2.1) 4 x5) fun a14'=>
 onS (M.intAt .i64 a14'.block a14'.off) fun x15'=>
 onS (M.intAt .i64 a14'.block (a14'.off+1)) fun x16'=>
 onS (M.intAt .i64 a14'.block (a14'.off+2)) fun x17'=>
 onS (M.intAt .i64 a14'.block (a14'.off+3)) fun x18'=>
 puS (binV Try.prog .neq 96 96 (.agg #[.int .i64 x8',.int .i64 x9',.int .i64 x10',.int .i64 x11']) (.agg #[.int .i64 x15',.int .i64 x16',.int .i64 x17',.int .i64 x18'])) fun v19'=>
 tyS (asB v19') fun b20'=>
 cnd b20' (
 Q (.bool false) M) (
 A39_1 x2 x3 (IntKind.i64.wrap (x5+1)) M Q)) (
 adS x2 fun a21'=>
 onS (M.boolAt a21'.block a21'.off) fun b22'=>
 adS x3 fun a23'=>
 onS (M.boolAt a23'.block a23'.off) fun b24'=>
 cnd (b22' == b24') (
 adS x2 fun a25'=>
 onS (M.intAt .i64 a25'.block (a25'.off+1)) fun x26'=>
 adS x3 fun a27'=>
 onS (M.intAt .i64 a27'.block (a27'.off+1)) fun x28'=>
 A39_2 x2 x3 (x26' == x28') M Q) (
 A39_2 x2 x3 false M Q))):
 A39_1 x2 x3 x5 M Q:=
 LvP.mk (cuts:=K39) (sp:=Z39) 900 H fun G=>by kernel_rfl
theorem w39_2 {x2 x3:Option Addr} {x45:Bool} {M:Mem} {Q:Value→Mem→Prop} (H:
 cnd x45 (
 adS x2 fun a29'=>
 onS (M.boolAt a29'.block (a29'.off+2)) fun b30'=>
 adS x3 fun a31'=>
 onS (M.boolAt a31'.block (a31'.off+2)) fun b32'=>
 A39_3 x2 x3 (b30' == b32') M Q) (
 A39_3 x2 x3 false M Q)):
 A39_2 x2 x3 x45 M Q:=
 LvP.mk (cuts:=K39) (sp:=Z39) 900 H fun G=>by kernel_rfl
theorem w39_3 {x2 x3:Option Addr} {x52:Bool} {M:Mem} {Q:Value→Mem→Prop} (H:
 cnd x52 (
 adS x2 fun a33'=>
 onS (M.boolAt a33'.block (a33'.off+3)) fun b34'=>
 adS x3 fun a35'=>
 onS (M.boolAt a35'.block (a35'.off+3)) fun b36'=>
 A39_4 x2 x3 (b34' == b36') M Q) (
 A39_4 x2 x3 false M Q)):
 A39_3 x2 x3 x52 M Q:=
 LvP.mk (cuts:=K39) (sp:=Z39) 900 H fun G=>by kernel_rfl
theorem w39_4 {x2 x3:Option Addr} {x59:Bool} {M:Mem} {Q:Value→Mem→Prop} (H:
 cnd x59 (
 adS x2 fun a37'=>
 onS (M.intAt .i64 a37'.block (a37'.off+4)) fun x38'=>
 adS x3 fun a39'=>
 onS (M.intAt .i64 a39'.block (a39'.off+4)) fun x40'=>
 A39_5 x2 x3 (x38' == x40') M Q) (
 A39_5 x2 x3 false M Q)):
 A39_4 x2 x3 x59 M Q:=
 LvP.mk (cuts:=K39) (sp:=Z39) 900 H fun G=>by kernel_rfl
theorem w39_5 {x2 x3:Option Addr} {x66:Bool} {M:Mem} {Q:Value→Mem→Prop} (H:
 cnd x66 (
 adS x2 fun a41'=>
 onS (M.intAt .i64 a41'.block (a41'.off+5)) fun x42'=>
 onS (M.intAt .i64 a41'.block (a41'.off+6)) fun x43'=>
 onS (M.intAt .i64 a41'.block (a41'.off+7)) fun x44'=>
 adS x3 fun a45'=>
 onS (M.intAt .i64 a45'.block (a45'.off+5)) fun x46'=>
 onS (M.intAt .i64 a45'.block (a45'.off+6)) fun x47'=>
 onS (M.intAt .i64 a45'.block (a45'.off+7)) fun x48'=>
 puS (binV Try.prog .eql 35 35 (.agg #[.int .i64 x42',.int .i64 x43',.int .i64 x44']) (.agg #[.int .i64 x46',.int .i64 x47',.int .i64 x48'])) fun v49'=>
 tyS (asB v49') fun b50'=>
 A39_6 x2 x3 b50' M Q) (
 A39_6 x2 x3 false M Q)):
 A39_5 x2 x3 x66 M Q:=
 LvP.mk (cuts:=K39) (sp:=Z39) 900 H fun G=>by kernel_rfl
theorem w39_6 {x2 x3:Option Addr} {x73:Bool} {M:Mem} {Q:Value→Mem→Prop} (H:
 cnd x73 (
 adS x2 fun a51'=>
 onS (M.intAt .i64 a51'.block (a51'.off+8)) fun x52'=>
 adS x3 fun a53'=>
 onS (M.intAt .i64 a53'.block (a53'.off+8)) fun x54'=>
 A39_7 x2 x3 (x52' == x54') M Q) (
 A39_7 x2 x3 false M Q)):
 A39_6 x2 x3 x73 M Q:=
 LvP.mk (cuts:=K39) (sp:=Z39) 900 H fun G=>by kernel_rfl
theorem w39_7 {x2 x3:Option Addr} {x6:Bool} {M:Mem} {Q:Value→Mem→Prop} (H:
 adS x2 fun a55'=>
 onS (M.intAt .i64 a55'.block (a55'.off+9)) fun x56'=>
 adS x3 fun a57'=>
 onS (M.intAt .i64 a57'.block (a57'.off+9)) fun x58'=>
 cnd (x56' == x58') (
 adS x2 fun a59'=>
 onS (M.intAt .i64 a59'.block (a59'.off+10)) fun x60'=>
 onS (M.intAt .i64 a59'.block (a59'.off+11)) fun x61'=>
 onS (M.intAt .i64 a59'.block (a59'.off+12)) fun x62'=>
 onS (M.intAt .i64 a59'.block (a59'.off+13)) fun x63'=>
 onS (M.intAt .i64 a59'.block (a59'.off+14)) fun x64'=>
 adS x3 fun a65'=>
 onS (M.intAt .i64 a65'.block (a65'.off+10)) fun x66'=>
 onS (M.intAt .i64 a65'.block (a65'.off+11)) fun x67'=>
 onS (M.intAt .i64 a65'.block (a65'.off+12)) fun x68'=>
 onS (M.intAt .i64 a65'.block (a65'.off+13)) fun x69'=>
 onS (M.intAt .i64 a65'.block (a65'.off+14)) fun x70'=>
 puS (binV Try.prog .eql 36 36 (.agg #[.int .i64 x60',.int .i64 x61',.int .i64 x62',.int .i64 x63',.int .i64 x64']) (.agg #[.int .i64 x66',.int .i64 x67',.int .i64 x68',.int .i64 x69',.int .i64 x70'])) fun v71'=>
 tyS (asB v71') fun b72'=>
 A39_8 x2 x3 x6 b72' M Q) (
 A39_8 x2 x3 x6 false M Q)):
 A39_7 x2 x3 x6 M Q:=
 LvP.mk (cuts:=K39) (sp:=Z39) 900 H fun G=>by kernel_rfl
theorem w39_8 {x2 x3:Option Addr} {x6 x92:Bool} {M:Mem} {Q:Value→Mem→Prop} (H:
 cnd x92 (
 adS x2 fun a73'=>
 onS (M.intAt .i64 a73'.block (a73'.off+15)) fun x74'=>
 adS x3 fun a75'=>
 onS (M.intAt .i64 a75'.block (a75'.off+15)) fun x76'=>
 A39_9 x2 x3 x6 (x74' == x76') M Q) (
 A39_9 x2 x3 x6 false M Q)):
 A39_8 x2 x3 x6 x92 M Q:=
 LvP.mk (cuts:=K39) (sp:=Z39) 900 H fun G=>by kernel_rfl
theorem w39_9 {x2 x3:Option Addr} {x6 x99:Bool} {M:Mem} {Q:Value→Mem→Prop} (H:
 cnd x99 (
 adS x2 fun a77'=>
 onS (M.intAt .i64 a77'.block (a77'.off+16)) fun x78'=>
 adS x3 fun a79'=>
 onS (M.intAt .i64 a79'.block (a79'.off+16)) fun x80'=>
 A39_10 x2 x3 x6 (x78' == x80') M Q) (
 A39_10 x2 x3 x6 false M Q)):
 A39_9 x2 x3 x6 x99 M Q:=
 LvP.mk (cuts:=K39) (sp:=Z39) 900 H fun G=>by kernel_rfl
theorem w39_10 {x2 x3:Option Addr} {x6 x106:Bool} {M:Mem} {Q:Value→Mem→Prop} (H:
 cnd x106 (
 adS x2 fun a81'=>
 onS (M.boolAt a81'.block (a81'.off+17)) fun b82'=>
 adS x3 fun a83'=>
 onS (M.boolAt a83'.block (a83'.off+17)) fun b84'=>
 A39_11 x2 x3 x6 (b82' == b84') M Q) (
 A39_11 x2 x3 x6 false M Q)):
 A39_10 x2 x3 x6 x106 M Q:=
 LvP.mk (cuts:=K39) (sp:=Z39) 900 H fun G=>by kernel_rfl
theorem w39_11 {x2 x3:Option Addr} {x6 x7:Bool} {M:Mem} {Q:Value→Mem→Prop} (H:
 cnd x6 (
 A39_12 x2 x3 x7 M Q) (
 A39_12 x2 x3 false M Q)):
 A39_11 x2 x3 x6 x7 M Q:=
 LvP.mk (cuts:=K39) (sp:=Z39) 900 H fun G=>by kernel_rfl
theorem w39_12 {x2 x3:Option Addr} {x117:Bool} {M:Mem} {Q:Value→Mem→Prop} (H:
 cnd x117 (
 adS x2 fun a85'=>
 onS (M.intAt .i64 a85'.block (a85'.off+18)) fun x86'=>
 onS (M.intAt .i64 a85'.block (a85'.off+19)) fun x87'=>
 onS (M.intAt .i64 a85'.block (a85'.off+20)) fun x88'=>
 onS (M.intAt .i64 a85'.block (a85'.off+21)) fun x89'=>
 adS x3 fun a90'=>
 onS (M.intAt .i64 a90'.block (a90'.off+18)) fun x91'=>
 onS (M.intAt .i64 a90'.block (a90'.off+19)) fun x92'=>
 onS (M.intAt .i64 a90'.block (a90'.off+20)) fun x93'=>
 onS (M.intAt .i64 a90'.block (a90'.off+21)) fun x94'=>
 puS (binV Try.prog .eql 37 37 (.agg #[.int .i64 x86',.int .i64 x87',.int .i64 x88',.int .i64 x89']) (.agg #[.int .i64 x91',.int .i64 x92',.int .i64 x93',.int .i64 x94'])) fun v95'=>
 tyS (asB v95') fun b96'=>
 A39_13 x2 x3 b96' M Q) (
 A39_13 x2 x3 false M Q)):
 A39_12 x2 x3 x117 M Q:=
 LvP.mk (cuts:=K39) (sp:=Z39) 900 H fun G=>by kernel_rfl
theorem w39_13 {x2 x3:Option Addr} {x124:Bool} {M:Mem} {Q:Value→Mem→Prop} (H:
 cnd x124 (
 adS x2 fun a97'=>
 onS (M.intAt .i64 a97'.block (a97'.off+22)) fun x98'=>
 adS x3 fun a99'=>
 onS (M.intAt .i64 a99'.block (a99'.off+22)) fun x100'=>
 A39_14 x2 x3 (x98' == x100') M Q) (
 A39_14 x2 x3 false M Q)):
 A39_13 x2 x3 x124 M Q:=
 LvP.mk (cuts:=K39) (sp:=Z39) 900 H fun G=>by kernel_rfl
theorem w39_14 {x2 x3:Option Addr} {x131:Bool} {M:Mem} {Q:Value→Mem→Prop} (H:
 cnd x131 (
 adS x2 fun a101'=>
 onS (M.boolAt a101'.block (a101'.off+23)) fun b102'=>
 adS x3 fun a103'=>
 onS (M.boolAt a103'.block (a103'.off+23)) fun b104'=>
 A39_15 x2 x3 (b102' == b104') M Q) (
 A39_15 x2 x3 false M Q)):
 A39_14 x2 x3 x131 M Q:=
 LvP.mk (cuts:=K39) (sp:=Z39) 900 H fun G=>by kernel_rfl
theorem w39_15 {x2 x3:Option Addr} {x138:Bool} {M:Mem} {Q:Value→Mem→Prop} (H:
 cnd x138 (
 adS x2 fun a105'=>
 onS (M.intAt .i64 a105'.block (a105'.off+24)) fun x106'=>
 adS x3 fun a107'=>
 onS (M.intAt .i64 a107'.block (a107'.off+24)) fun x108'=>
 A39_16 x2 x3 (x106' == x108') M Q) (
 A39_16 x2 x3 false M Q)):
 A39_15 x2 x3 x138 M Q:=
 LvP.mk (cuts:=K39) (sp:=Z39) 900 H fun G=>by kernel_rfl
theorem w39_16 {x2 x3:Option Addr} {x145:Bool} {M:Mem} {Q:Value→Mem→Prop} (H:
 cnd x145 (
 adS x2 fun a109'=>
 onS (M.intAt .i64 a109'.block (a109'.off+25)) fun x110'=>
 adS x3 fun a111'=>
 onS (M.intAt .i64 a111'.block (a111'.off+25)) fun x112'=>
 A39_17 x2 x3 (x110' == x112') M Q) (
 A39_17 x2 x3 false M Q)):
 A39_16 x2 x3 x145 M Q:=
 LvP.mk (cuts:=K39) (sp:=Z39) 900 H fun G=>by kernel_rfl
theorem w39_17 {x2 x3:Option Addr} {x152:Bool} {M:Mem} {Q:Value→Mem→Prop} (H:
 cnd x152 (
 adS x2 fun a113'=>
 onS (M.boolAt a113'.block (a113'.off+27)) fun b114'=>
 onS (M.boolAt a113'.block (a113'.off+28)) fun b115'=>
 onS (M.boolAt a113'.block (a113'.off+29)) fun b116'=>
 adS x3 fun a117'=>
 onS (M.boolAt a117'.block (a117'.off+27)) fun b118'=>
 onS (M.boolAt a117'.block (a117'.off+28)) fun b119'=>
 onS (M.boolAt a117'.block (a117'.off+29)) fun b120'=>
 puS (binV Try.prog .eql 39 39 (.agg #[.bool b114',.bool b115',.bool b116']) (.agg #[.bool b118',.bool b119',.bool b120'])) fun v121'=>
 tyS (asB v121') fun b122'=>
 Q (.bool b122') M) (
 Q (.bool false) M)):
 A39_17 x2 x3 x152 M Q:=
 LvP.mk (cuts:=K39) (sp:=Z39) 900 H fun G=>by kernel_rfl
end Go.Zt

/- Layer 20: the law's own 'same' of a header and its like. -/
set_option linter.unusedSimpArgs false
set_option linter.unusedVariables false
set_option maxRecDepth 100000
namespace Go.Zt
open Go Go.Sim Go.Proofs Go.RowKit
section
variable {h:Hd} {X:List Sg} {M0 M:Mem} {j i:Nat} {A':Option Addr} {c':Nat}
theorem f39_17 (K:Keep M0 M) (a:M.nb[j]?=some (.cells h.cs 41)) (a':M.nb[i]?=some (.cells ({ h with A:=A',c:=c' }:Hd).cs 41)) {x:Bool} (hx:x=true):A39_17 (some ⟨2*j,0,none⟩) (some ⟨2*i,0,none⟩) x M (BK M0 true):=by
  exact w39_17 (cT hx (ad rfl (on (bool_of a rfl) (on (bool_of a rfl) (on (bool_of a rfl) (ad rfl (on (bool_of a' rfl) (on (bool_of a' rfl) (on (bool_of a' rfl) (pu (eq39 ..).1 (ty rfl (⟨by simp,K⟩))))))))))))
theorem f39_16 (K:Keep M0 M) (a:M.nb[j]?=some (.cells h.cs 41)) (a':M.nb[i]?=some (.cells ({ h with A:=A',c:=c' }:Hd).cs 41)) {x:Bool} (hx:x=true):A39_16 (some ⟨2*j,0,none⟩) (some ⟨2*i,0,none⟩) x M (BK M0 true):=by
  exact w39_16 (cT hx (ad rfl (on (int_of a rfl) (ad rfl (on (int_of a' rfl) (f39_17 K a a' (by simp)))))))
theorem f39_15 (K:Keep M0 M) (a:M.nb[j]?=some (.cells h.cs 41)) (a':M.nb[i]?=some (.cells ({ h with A:=A',c:=c' }:Hd).cs 41)) {x:Bool} (hx:x=true):A39_15 (some ⟨2*j,0,none⟩) (some ⟨2*i,0,none⟩) x M (BK M0 true):=by
  exact w39_15 (cT hx (ad rfl (on (int_of a rfl) (ad rfl (on (int_of a' rfl) (f39_16 K a a' (by simp)))))))
theorem f39_14 (K:Keep M0 M) (a:M.nb[j]?=some (.cells h.cs 41)) (a':M.nb[i]?=some (.cells ({ h with A:=A',c:=c' }:Hd).cs 41)) {x:Bool} (hx:x=true):A39_14 (some ⟨2*j,0,none⟩) (some ⟨2*i,0,none⟩) x M (BK M0 true):=by
  exact w39_14 (cT hx (ad rfl (on (bool_of a rfl) (ad rfl (on (bool_of a' rfl) (f39_15 K a a' (by simp)))))))
theorem f39_13 (K:Keep M0 M) (a:M.nb[j]?=some (.cells h.cs 41)) (a':M.nb[i]?=some (.cells ({ h with A:=A',c:=c' }:Hd).cs 41)) {x:Bool} (hx:x=true):A39_13 (some ⟨2*j,0,none⟩) (some ⟨2*i,0,none⟩) x M (BK M0 true):=by
  exact w39_13 (cT hx (ad rfl (on (int_of a rfl) (ad rfl (on (int_of a' rfl) (f39_14 K a a' (by simp)))))))
theorem f39_12 (K:Keep M0 M) (a:M.nb[j]?=some (.cells h.cs 41)) (a':M.nb[i]?=some (.cells ({ h with A:=A',c:=c' }:Hd).cs 41)) {x:Bool} (hx:x=true):A39_12 (some ⟨2*j,0,none⟩) (some ⟨2*i,0,none⟩) x M (BK M0 true):=by
  exact w39_12 (cT hx (ad rfl (on (int_of a rfl) (on (int_of a rfl) (on (int_of a rfl) (on (int_of a rfl) (ad rfl (on (int_of a' rfl) (on (int_of a' rfl) (on (int_of a' rfl) (on (int_of a' rfl) (pu (eq37 ..).1 (ty rfl (f39_13 K a a' (by simp)))))))))))))))
theorem f39_11 (K:Keep M0 M) (a:M.nb[j]?=some (.cells h.cs 41)) (a':M.nb[i]?=some (.cells ({ h with A:=A',c:=c' }:Hd).cs 41)) {x:Bool} (hx:x=true) {y:Bool} (hy:y=true):A39_11 (some ⟨2*j,0,none⟩) (some ⟨2*i,0,none⟩) x y M (BK M0 true):=by
  exact w39_11 (cT hx (f39_12 K a a' hy))
theorem f39_10 (K:Keep M0 M) (a:M.nb[j]?=some (.cells h.cs 41)) (a':M.nb[i]?=some (.cells ({ h with A:=A',c:=c' }:Hd).cs 41)) {x:Bool} (hx:x=true) {y:Bool} (hy:y=true):A39_10 (some ⟨2*j,0,none⟩) (some ⟨2*i,0,none⟩) x y M (BK M0 true):=by
  exact w39_10 (cT hy (ad rfl (on (bool_of a rfl) (ad rfl (on (bool_of a' rfl) (f39_11 K a a' hx (by simp)))))))
theorem f39_9 (K:Keep M0 M) (a:M.nb[j]?=some (.cells h.cs 41)) (a':M.nb[i]?=some (.cells ({ h with A:=A',c:=c' }:Hd).cs 41)) {x:Bool} (hx:x=true) {y:Bool} (hy:y=true):A39_9 (some ⟨2*j,0,none⟩) (some ⟨2*i,0,none⟩) x y M (BK M0 true):=by
  exact w39_9 (cT hy (ad rfl (on (int_of a rfl) (ad rfl (on (int_of a' rfl) (f39_10 K a a' hx (by simp)))))))
theorem f39_8 (K:Keep M0 M) (a:M.nb[j]?=some (.cells h.cs 41)) (a':M.nb[i]?=some (.cells ({ h with A:=A',c:=c' }:Hd).cs 41)) {x:Bool} (hx:x=true) {y:Bool} (hy:y=true):A39_8 (some ⟨2*j,0,none⟩) (some ⟨2*i,0,none⟩) x y M (BK M0 true):=by
  exact w39_8 (cT hy (ad rfl (on (int_of a rfl) (ad rfl (on (int_of a' rfl) (f39_9 K a a' hx (by simp)))))))
theorem f39_7 (K:Keep M0 M) (a:M.nb[j]?=some (.cells h.cs 41)) (a':M.nb[i]?=some (.cells ({ h with A:=A',c:=c' }:Hd).cs 41)) {x:Bool} (hx:x=true):A39_7 (some ⟨2*j,0,none⟩) (some ⟨2*i,0,none⟩) x M (BK M0 true):=by
  exact w39_7 (ad rfl (on (int_of a rfl) (ad rfl (on (int_of a' rfl) (cT (by simp) (ad rfl (on (int_of a rfl) (on (int_of a rfl) (on (int_of a rfl) (on (int_of a rfl) (on (int_of a rfl) (ad rfl (on (int_of a' rfl) (on (int_of a' rfl) (on (int_of a' rfl) (on (int_of a' rfl) (on (int_of a' rfl) (pu (eq36 ..).1 (ty rfl (f39_8 K a a' hx (by simp)))))))))))))))))))))
theorem f39_6 (K:Keep M0 M) (a:M.nb[j]?=some (.cells h.cs 41)) (a':M.nb[i]?=some (.cells ({ h with A:=A',c:=c' }:Hd).cs 41)) {x:Bool} (hx:x=true):A39_6 (some ⟨2*j,0,none⟩) (some ⟨2*i,0,none⟩) x M (BK M0 true):=by
  exact w39_6 (cT hx (ad rfl (on (int_of a rfl) (ad rfl (on (int_of a' rfl) (f39_7 K a a' (by simp)))))))
theorem f39_5 (K:Keep M0 M) (a:M.nb[j]?=some (.cells h.cs 41)) (a':M.nb[i]?=some (.cells ({ h with A:=A',c:=c' }:Hd).cs 41)) {x:Bool} (hx:x=true):A39_5 (some ⟨2*j,0,none⟩) (some ⟨2*i,0,none⟩) x M (BK M0 true):=by
  exact w39_5 (cT hx (ad rfl (on (int_of a rfl) (on (int_of a rfl) (on (int_of a rfl) (ad rfl (on (int_of a' rfl) (on (int_of a' rfl) (on (int_of a' rfl) (pu (eq35 ..).1 (ty rfl (f39_6 K a a' (by simp)))))))))))))
theorem f39_4 (K:Keep M0 M) (a:M.nb[j]?=some (.cells h.cs 41)) (a':M.nb[i]?=some (.cells ({ h with A:=A',c:=c' }:Hd).cs 41)) {x:Bool} (hx:x=true):A39_4 (some ⟨2*j,0,none⟩) (some ⟨2*i,0,none⟩) x M (BK M0 true):=by
  exact w39_4 (cT hx (ad rfl (on (int_of a rfl) (ad rfl (on (int_of a' rfl) (f39_5 K a a' (by simp)))))))
theorem f39_3 (K:Keep M0 M) (a:M.nb[j]?=some (.cells h.cs 41)) (a':M.nb[i]?=some (.cells ({ h with A:=A',c:=c' }:Hd).cs 41)) {x:Bool} (hx:x=true):A39_3 (some ⟨2*j,0,none⟩) (some ⟨2*i,0,none⟩) x M (BK M0 true):=by
  exact w39_3 (cT hx (ad rfl (on (bool_of a rfl) (ad rfl (on (bool_of a' rfl) (f39_4 K a a' (by simp)))))))
theorem f39_2 (K:Keep M0 M) (a:M.nb[j]?=some (.cells h.cs 41)) (a':M.nb[i]?=some (.cells ({ h with A:=A',c:=c' }:Hd).cs 41)) {x:Bool} (hx:x=true):A39_2 (some ⟨2*j,0,none⟩) (some ⟨2*i,0,none⟩) x M (BK M0 true):=by
  exact w39_2 (cT hx (ad rfl (on (bool_of a rfl) (ad rfl (on (bool_of a' rfl) (f39_3 K a a' (by simp)))))))
theorem f39_1 (K:Keep M0 M) (a:M.nb[j]?=some (.cells h.cs 41)) (a':M.nb[i]?=some (.cells ({ h with A:=A',c:=c' }:Hd).cs 41)) (hn:h.n=X.length) (hb:h.n≤1048576) (hR:Row M h.A (Sgs X)) (hR':Row M A' (Sgs X)):∀ (k q:Nat),q+k=h.n→A39_1 (some ⟨2*j,0,none⟩) (some ⟨2*i,0,none⟩) (q:Int) M (BK M0 true)
  | 0,q,hq=>w39_1 (ad rfl (on (sl_of a rfl) (cF (decide_eq_false (by show ¬ (q:Int)<(h.n:Int); omega)) (ad rfl (on (bool_of a rfl) (ad rfl (on (bool_of a' rfl) (cT (by simp) (ad rfl (on (int_of a rfl) (ad rfl (on (int_of a' rfl) (f39_2 K a a' (by simp))))))))))))))
  | k+1,q,hq=>by
    have hlt:q<X.length:=by omega
    obtain ⟨p,g0,g1,g2,g3,g4⟩:=Sgs.elt hR (n:=h.n) (i:=q) (z:=(q:Int)) rfl (by omega) hlt
    obtain ⟨p',g0',g1',g2',g3',g4'⟩:=Sgs.elt hR' (n:=h.n) (i:=q) (z:=(q:Int)) rfl (by omega) hlt
    refine w39_1 (ad rfl (on (sl_of a rfl) (cT (decide_eq_true (show (q:Int)<(h.n:Int) by omega)) (ad rfl (on (sl_of a rfl) (ix g0 (on g1 (on g2 (on g3 (on g4 (ad rfl (on (sl_of a' rfl) (ix g0' (on g1' (on g2' (on g3' (on g4' (pu (eq96 ..).2 (ty rfl (cF (by simp) ?_))))))))))))))))))))
    rw [i64w (by omega)]
    exact f39_1 K a a' hn hb hR hR' k (q+1) (by omega)
theorem c39 (hn:h.n=X.length) (hb:h.n≤1048576) (hR:Row M h.A (Sgs X)) (hR':Row M A' (Sgs X)):Cn Try.prog 39 #[.agg h.cs,.agg ({ h with A:=A',c:=c' }:Hd).cs] M (BK M true):=by
  have a:=Mem.new_at M (.cells h.cs 41)
  have K:Keep M (M.new (.cells h.cs 41)):=.new _ _
  refine w39_0 ?_
  generalize M.new (.cells h.cs 41)=N at a K ⊢
  have a':=Mem.new_at N (.cells ({ h with A:=A',c:=c' }:Hd).cs 41)
  have K2:Keep N (N.new (.cells ({ h with A:=A',c:=c' }:Hd).cs 41)):=.new _ _
  have a2:=at_keep a K2
  generalize N.new (.cells ({ h with A:=A',c:=c' }:Hd).cs 41)=N2 at a' K2 a2 ⊢
  have KK:=K.trans K2
  exact on (sl_of a2 rfl) (on (sl_of a' rfl) (cF (by simp) (f39_1 KK a2 a' hn hb (hR.keep KK) (hR'.keep KK) h.n 0 (by omega))))
end
end Go.Zt

/- Layer 20: a header's bits,where they stand,are read. Plain. -/
set_option linter.unusedSimpArgs false
set_option linter.unusedVariables false
set_option maxRecDepth 100000
namespace Go.Zt
open Go Go.Sim Go.Proofs Go.RowKit
def seg (f:Nat→Nat) (p n:Nat):List Nat:=(List.range n).map fun i=>f (p+i)
theorem seg_len (f:Nat→Nat) (p n:Nat):(seg f p n).length=n:=by simp [seg]
theorem seg_cons (f:Nat→Nat) (p n:Nat):seg f p (n+1)=f p::seg f (p+1) n:=by
  unfold seg
  rw [List.range_succ_eq_map,List.map_cons,List.map_map]
  congr 1
  refine List.map_congr_left fun i _=>?_
  simp only [Function.comp]; congr 1; omega
theorem seg_app (f:Nat→Nat) (p:Nat) (n:Nat):∀ m,seg f p (m+n)=seg f p m ++ seg f (p+m) n
  | m=>by
    unfold seg
    rw [List.range_add,List.map_append,List.map_map]
    congr 1
    refine List.map_congr_left fun i _=>?_
    simp only [Function.comp]; congr 1; omega
theorem segN {f:Nat→Nat} (hf:∀ i,f i<2):∀ (n p:Nat),bitsN (numb f p n) n=seg f p n
  | 0,p=>rfl
  | n+1,p=>by
    have h:=numb_lt hf (p+1) n
    rw [bitsN,seg_cons,numb_cons]
    have e1:(f p*2 ^ n+numb f (p+1) n) / 2 ^ n % 2=f p:=by
      rw [Nat.add_comm,Nat.add_mul_div_right _ _ (Nat.two_pow_pos n),Nat.div_eq_of_lt h,Nat.zero_add,Nat.mod_eq_of_lt (hf p)]
    have e2:bitsN (f p*2 ^ n+numb f (p+1) n) n=bitsN (numb f (p+1) n) n:=by
      rw [← bitsN_mod _ (Nat.le_refl n),Nat.add_comm,Nat.add_mul_mod_self_right,Nat.mod_eq_of_lt h]
    rw [e1,e2,segN hf n (p+1)]
theorem bitsN_inj:∀ (n:Nat) {a b:Nat},a<2 ^ n→b<2 ^ n→bitsN a n=bitsN b n→a=b
  | 0,a,b,ha,hb,_=>by simp at ha hb; omega
  | n+1,a,b,ha,hb,h=>by
    rw [bitsN,bitsN] at h
    obtain ⟨h1,h2⟩:=List.cons.inj h
    rw [← bitsN_mod a (Nat.le_refl n),← bitsN_mod b (Nat.le_refl n)] at h2
    have hp:=Nat.two_pow_pos n
    have:=bitsN_inj n (Nat.mod_lt _ hp) (Nat.mod_lt _ hp) h2
    have hpow:2 ^ (n+1)=2*2 ^ n:=by rw [Nat.pow_succ]; omega
    have ha2:a / 2 ^ n<2:=Nat.div_lt_of_lt_mul (by omega)
    have hb2:b / 2 ^ n<2:=Nat.div_lt_of_lt_mul (by omega)
    rw [Nat.mod_eq_of_lt ha2,Nat.mod_eq_of_lt hb2] at h1
    rw [← Nat.div_add_mod a (2 ^ n),← Nat.div_add_mod b (2 ^ n),h1,this]
theorem numb_seg {f:Nat→Nat} (hf:∀ i,f i<2) {p n v:Nat} (hv:v<2 ^ n) (h:seg f p n=bitsN v n):numb f p n=v:=
  bitsN_inj n (numb_lt hf p n) hv (by rw [segN hf,h])
structure At (b:List Nat) (z p:Nat) (l:List Nat):Prop where
  seg:seg (bitOf b) p l.length=l
  len:p+l.length=z
  le:z≤8*b.length
section
variable {b:List Nat} {z p:Nat} {l:List Nat} {h g:Hd} {c:Cd} {X:List Sg} {w e:Int}
theorem bit2 (i:Nat):bitOf b i<2:=Nat.mod_lt _ (by decide)
theorem At.split {l1 l2:List Nat} (H:At b z p (l1 ++ l2)):Go.Zt.seg (bitOf b) p l1.length=l1∧p+l1.length+l2.length=z∧z≤8*b.length∧At b z (p+l1.length) l2:=by
  obtain ⟨h1,h2,h3⟩:=H
  rw [List.length_append] at h1 h2
  rw [seg_app] at h1
  obtain ⟨q1,q2⟩:=List.append_inj h1 (seg_len ..)
  exact ⟨q1,by omega,h3,q2,by omega,h3⟩
theorem At.fixed {n v:Nat} (H:At b z p (bitsN v n ++ l)) (hv:v<2 ^ n) (hn:n≤32):rFixed b p n=(v,0,p+n)∧At b z (p+n) l:=by
  obtain ⟨q1,q2,q3,q4⟩:=H.split
  rw [bitsN_len] at q1 q2 q4
  refine ⟨?_,q4⟩
  unfold rFixed
  rw [if_neg (by omega),if_neg (by omega),Int.toNat_natCast,numb_seg bit2 hv q1]
theorem nA {v f x:Int} {n:Nat} {s:Int→Hd} (H:At b z p (bI x n ++ l)) (hn:n≤32) (h0:0≤x) (h1:x<((2 ^ n:Nat):Int)) (e:c=nF (.r b p,0,g) v s n f):∃ q,c=(.r b q,0,s (x+f))∧At b z q l:=by
  obtain ⟨q1,q2⟩:=At.fixed (v:=x.toNat) H (by omega) hn
  refine ⟨p+n,?_,q2⟩
  rw [e]
  unfold nF numD
  rw [if_neg (show ¬ (0:Nat)≠0 by decide)]
  simp only [q1,if_true]
  rw [show ((x.toNat:Nat):Int)=x by omega]
theorem nA0 {v x:Int} {n:Nat} {s:Int→Hd} (H:At b z p (bI x n ++ l)) (hn:n≤32) (h0:0≤x) (h1:x<((2 ^ n:Nat):Int)) (e:c=nF (.r b p,0,g) v s n 0):∃ q,c=(.r b q,0,s x)∧At b z q l:=by
  obtain ⟨q,h1,h2⟩:=nA H hn h0 h1 e
  exact ⟨q,by rw [h1,Int.add_zero],h2⟩
theorem flag_a {x v:Bool} (H:At b z p ([yes x] ++ l)):flagD (.r b p) 0 v=(.r b (p+1),0,x)∧At b z (p+1) l:=by
  have e1:[yes x]=bitsN (yes x) 1:=by cases x <;> rfl
  rw [e1] at H
  obtain ⟨q1,q2⟩:=At.fixed (v:=yes x) (n:=1) H (by cases x <;> decide) (by decide)
  refine ⟨?_,q2⟩
  have q1':rFixed b p 1=(yes x,0,p+1):=q1
  unfold flagD numD
  rw [if_neg (by decide)]
  simp only [q1',if_true]
  cases x <;> rfl
theorem fA {v x:Bool} {s:Bool→Hd} (H:At b z p ([yes x] ++ l)) (e:c=fF (.r b p,0,g) v s):∃ q,c=(.r b q,0,s x)∧At b z q l:=by
  obtain ⟨q1,q2⟩:=flag_a (v:=v) H
  exact ⟨p+1,by rw [e]; unfold fF; simp only [q1],q2⟩
theorem delta_a {x v:Int} (H:At b z p (dBits x ++ l)) (hx : -31≤x∧x≤31) (hv:v=0):∃ q,deltaD (.r b p) 0 v=(.r b q,0,x)∧At b z q l:=by
  unfold dBits at H
  by_cases h0:x=0
  · subst h0 hv
    obtain ⟨q1,q2⟩:=flag_a (x:=false) (v:=(0:Int) != 0) (l:=l) (by simpa [yes] using H)
    exact ⟨p+1,by unfold deltaD; rw [q1]; rfl,q2⟩
  · have hb:(x != 0)=true:=by simpa using h0
    rw [hb] at H
    simp only [if_true] at H
    obtain ⟨q1,q2⟩:=flag_a (x:=true) (v:=v != 0) (l:=yes (decide (x<0))::bitsN x.natAbs 5 ++ l) (by simpa using H)
    have q2':At b z (p+1) ([yes (decide (x<0))] ++ (bitsN x.natAbs 5 ++ l)):=by simpa using q2
    obtain ⟨a1,a2,a3,a4⟩:=q2'.split
    obtain ⟨b1,b2,b3,b4⟩:=a4.split
    have l1:([yes (decide (x<0))]:List Nat).length=1:=rfl
    rw [l1] at a1 a2 a4 b1 b4 b2
    rw [bitsN_len] at b1 b2 b4
    have hn:numb (bitOf b) (p+1+1) 5=x.natAbs:=numb_seg bit2 (show x.natAbs<32 by omega) b1
    have hs:bitOf b (p+1)=yes (decide (x<0)):=by
      have:Go.Zt.seg (bitOf b) (p+1) 1=[bitOf b (p+1)]:=rfl
      rw [this] at a1
      exact List.head_eq_of_cons_eq a1
    refine ⟨p+1+1+5,?_,b4⟩
    have hr:rSigned b (p+1) 5=(x,0,p+1+1+5):=by
      unfold rSigned
      rw [if_neg (by decide),if_neg (by omega),show (5:Int).toNat=5 from rfl,hn,hs]
      by_cases hneg:x<0
      · rw [if_pos (by simp [hneg,yes]),if_neg (by omega)]
        congr 1
        omega
      · rw [if_neg (by simp [hneg,yes])]
        congr 1
        omega
    unfold deltaD
    rw [q1]
    simp only [hr,Bool.true_eq_false,ne_eq,not_true_eq_false,or_self,if_false]
    rw [if_neg (fun q=>h0 q.2)]
theorem dA {x v:Int} {s:Int→Hd} (H:At b z p (dBits x ++ l)) (hx : -31≤x∧x≤31) (hv:v=0) (e:c=dF' (.r b p,0,g) v s):∃ q,c=(.r b q,0,s x)∧At b z q l:=by
  obtain ⟨q,q1,q2⟩:=delta_a (v:=v) H hx hv
  exact ⟨q,by rw [e]; unfold dF'; simp only [q1],q2⟩
theorem lA {x v k:Int} {s:Int→Hd} (H:At b z p (bI x 2 ++ l)) (hx:logM x k=true) (e:c=gF (.r b p,0,g) v s k):∃ q,c=(.r b q,0,s x)∧At b z q l:=by
  have h2:=of_decide_eq_true hx
  obtain ⟨q1,q2⟩:=At.fixed (v:=x.toNat) (n:=2) H (by show x.toNat<4; omega) (by decide)
  refine ⟨p+2,?_,q2⟩
  have q1':rFixed b p 2=(x.toNat,0,p+2):=q1
  have e2:numD (.r b p) 0 v 2 0=(.r b (p+2),0,x):=by
    unfold numD
    rw [if_neg (by decide)]
    simp only [q1',if_true]
    rw [show ((x.toNat:Nat):Int)+0=x by omega]
  rw [e]
  unfold gF logD
  rw [e2,if_neg (fun q=>by rw [hx] at q; cases q.2)]
theorem sg_a {x y:Sg} (H:At b z p (sBits x ++ l)) (hx:x.may=true):∃ q,sg1 (.r b p) 0 y=(.r b q,0,x)∧At b z q l:=by
  have m:=of_decide_eq_true hx
  unfold sBits at H
  simp only [List.append_assoc] at H
  have step:∀ {p:Nat} {l:List Nat} {v u:Int} {n:Nat},At b z p (bI u n ++ l)→n≤32→0≤u→u<((2 ^ n:Nat):Int)→numD (.r b p) 0 v n 0=(.r b (p+n),0,u)∧At b z (p+n) l:=by
    intro p l v u n H hn h0 h1
    obtain ⟨q1,q2⟩:=At.fixed (v:=u.toNat) H (by omega) hn
    refine ⟨?_,q2⟩
    unfold numD
    rw [if_neg (by decide)]
    simp only [q1,if_true]
    rw [show ((u.toNat:Nat):Int)+0=u by omega]
  obtain ⟨a1,H1⟩:=step (v:=y.a) H (by decide) (by omega) (by show x.a<16; omega)
  obtain ⟨a2,H2⟩:=step (v:=y.b) H1 (by decide) (by omega) (by show x.b<4; omega)
  obtain ⟨a3,H3⟩:=step (v:=y.c) H2 (by decide) (by omega) (by show x.c<16; omega)
  obtain ⟨a4,H4⟩:=step (v:=y.d) H3 (by decide) (by omega) (by show x.d<4; omega)
  have a1':numD (.r b p) 0 y.a 4 0=_:=a1
  have a2':numD (.r b (p+4)) 0 y.b 2 0=_:=a2
  have a3':numD (.r b (p+4+2)) 0 y.c 4 0=_:=a3
  have a4':numD (.r b (p+4+2+4)) 0 y.d 2 0=_:=a4
  refine ⟨p+4+2+4+2,?_,H4⟩
  unfold sg1
  simp only [a1',a2',a3',a4']
theorem sgs_a:∀ (X Y:List Sg) {p:Nat} {l:List Nat},At b z p (X.flatMap sBits ++ l)→X.all Sg.may=true→Y.length=X.length→∃ q,sgsD (.r b p) 0 Y=(.r b q,0,X)∧At b z q l
  | [],[],p,l,H,_,_=>⟨p,rfl,by simpa using H⟩
  | [],y::Y,p,l,H,_,hl=>by simp at hl
  | x::X,[],p,l,H,_,hl=>by simp at hl
  | x::X,y::Y,p,l,H,hX,hl=>by
    simp only [List.all_cons,Bool.and_eq_true] at hX
    simp only [List.flatMap_cons,List.append_assoc] at H
    obtain ⟨q,a1,H1⟩:=sg_a (y:=y) H hX.1
    obtain ⟨q2,a2,H2⟩:=sgs_a X Y H1 hX.2 (by simpa using hl)
    refine ⟨q2,?_,H2⟩
    simp only [sgsD,a1,a2]
theorem u_cd (e1:h.da=0) (e2:h.cb=0):wo ({ h with da:=0,cb:=0,x0:=false,x1:=false,x2:=false }:Hd)=wo ({ h with x0:=false,x1:=false,x2:=false }:Hd):=by
  cases h
  simp only at e1 e2
  subst e1 e2
  rfl
theorem filt_a (H:At b z p (fBits h X ++ l)) (hm:h.mayF X=true) (hl:h.less=false) (hg:wo g=wo ({ h with l0:=0,l1:=0,l2:=0,l3:=0,sp:=0,cd:=false,da:=0,cb:=0,x0:=false,x1:=false,x2:=false }:Hd)) {X':List Sg} (ht:FiltT (.r b p,0,g) [] c X'):∃ q,c.1=.r b q∧c.2.1=0∧wo c.2.2=wo h∧X'=X∧At b z q l:=by
  unfold Hd.mayF at hm
  rw [hl] at hm
  simp only [Bool.false_eq_true,if_false,Bool.and_eq_true,decide_eq_true_eq] at hm
  obtain ⟨⟨ms,mc,m0,m1,m2,m3⟩,mX⟩:=hm
  obtain ⟨c1,h1,c2,h2,c3,h3,c4,h4,c5,h5,c6,h6,c7,h7,c8,h8,c9,h9,h10⟩:=ht
  unfold fBits at H
  simp only [List.append_assoc] at H
  have G0:=hg
  obtain ⟨q1,e1,H1⟩:=nA0 H (n:=6) (by decide) m0.1 (by show h.l0<64; omega) h1
  have G1:wo c1.2.2=wo ({ h with l1:=0,l2:=0,l3:=0,sp:=0,cd:=false,da:=0,cb:=0,x0:=false,x1:=false,x2:=false }:Hd):=by rw [e1]; exact congrArg (fun x:Hd=>{ x with l0:=h.l0 }) G0
  obtain ⟨c1a,c1b,g1⟩:=c1
  obtain ⟨rfl,rfl⟩:c1a=.r b q1∧c1b=0:=⟨congrArg Prod.fst e1,congrArg (fun y:Cd=>y.2.1) e1⟩
  clear e1 h1
  replace G1:wo g1=wo ({ h with l1:=0,l2:=0,l3:=0,sp:=0,cd:=false,da:=0,cb:=0,x0:=false,x1:=false,x2:=false }:Hd):=G1
  obtain ⟨q2,e2,H2⟩:=nA0 H1 (n:=6) (by decide) m1.1 (by show h.l1<64; omega) h2
  have G2:wo c2.2.2=wo ({ h with l2:=0,l3:=0,sp:=0,cd:=false,da:=0,cb:=0,x0:=false,x1:=false,x2:=false }:Hd):=by rw [e2]; exact congrArg (fun x:Hd=>{ x with l1:=h.l1 }) G1
  obtain ⟨c2a,c2b,g2⟩:=c2
  obtain ⟨rfl,rfl⟩:c2a=.r b q2∧c2b=0:=⟨congrArg Prod.fst e2,congrArg (fun y:Cd=>y.2.1) e2⟩
  clear e2 h2
  replace G2:wo g2=wo ({ h with l2:=0,l3:=0,sp:=0,cd:=false,da:=0,cb:=0,x0:=false,x1:=false,x2:=false }:Hd):=G2
  obtain ⟨q3,e3,H3⟩:=nA0 H2 (n:=6) (by decide) m2.1 (by show h.l2<64; omega) h3
  have G3:wo c3.2.2=wo ({ h with l3:=0,sp:=0,cd:=false,da:=0,cb:=0,x0:=false,x1:=false,x2:=false }:Hd):=by rw [e3]; exact congrArg (fun x:Hd=>{ x with l2:=h.l2 }) G2
  obtain ⟨c3a,c3b,g3⟩:=c3
  obtain ⟨rfl,rfl⟩:c3a=.r b q3∧c3b=0:=⟨congrArg Prod.fst e3,congrArg (fun y:Cd=>y.2.1) e3⟩
  clear e3 h3
  replace G3:wo g3=wo ({ h with l3:=0,sp:=0,cd:=false,da:=0,cb:=0,x0:=false,x1:=false,x2:=false }:Hd):=G3
  obtain ⟨q4,e4,H4⟩:=nA0 H3 (n:=6) (by decide) m3.1 (by show h.l3<64; omega) h4
  have G4:wo c4.2.2=wo ({ h with sp:=0,cd:=false,da:=0,cb:=0,x0:=false,x1:=false,x2:=false }:Hd):=by rw [e4]; exact congrArg (fun x:Hd=>{ x with l3:=h.l3 }) G3
  obtain ⟨c4a,c4b,g4⟩:=c4
  obtain ⟨rfl,rfl⟩:c4a=.r b q4∧c4b=0:=⟨congrArg Prod.fst e4,congrArg (fun y:Cd=>y.2.1) e4⟩
  clear e4 h4
  replace G4:wo g4=wo ({ h with sp:=0,cd:=false,da:=0,cb:=0,x0:=false,x1:=false,x2:=false }:Hd):=G4
  obtain ⟨q5,e5,H5⟩:=nA0 H4 (n:=3) (by decide) ms.1 (by show h.sp<8; omega) h5
  have G5:wo c5.2.2=wo ({ h with cd:=false,da:=0,cb:=0,x0:=false,x1:=false,x2:=false }:Hd):=by rw [e5]; exact congrArg (fun x:Hd=>{ x with sp:=h.sp }) G4
  obtain ⟨c5a,c5b,g5⟩:=c5
  obtain ⟨rfl,rfl⟩:c5a=.r b q5∧c5b=0:=⟨congrArg Prod.fst e5,congrArg (fun y:Cd=>y.2.1) e5⟩
  clear e5 h5
  replace G5:wo g5=wo ({ h with cd:=false,da:=0,cb:=0,x0:=false,x1:=false,x2:=false }:Hd):=G5
  obtain ⟨q6,e6,H6⟩:=fA H5  h6
  have G6:wo c6.2.2=wo ({ h with da:=0,cb:=0,x0:=false,x1:=false,x2:=false }:Hd):=by rw [e6]; exact congrArg (fun x:Hd=>{ x with cd:=h.cd }) G5
  obtain ⟨c6a,c6b,g6⟩:=c6
  obtain ⟨rfl,rfl⟩:c6a=.r b q6∧c6b=0:=⟨congrArg Prod.fst e6,congrArg (fun y:Cd=>y.2.1) e6⟩
  clear e6 h6
  replace G6:wo g6=wo ({ h with da:=0,cb:=0,x0:=false,x1:=false,x2:=false }:Hd):=G6
  have hcd:g6.cd=h.cd:=by have:=congrArg Hd.cd G6; exact this
  have S7:∃ q7 g7,c7=(.r b q7,0,g7)∧wo g7=wo ({ h with x0:=false,x1:=false,x2:=false }:Hd)∧X'=X∧At b z q7 ([yes h.x0] ++ ([yes h.x1] ++ ([yes h.x2] ++ l))):=by
    by_cases hc:h.cd=true
    · rw [if_pos ⟨by show g6.cd=true; rw [hcd,hc],rfl⟩] at h7
      rw [if_pos hc] at mc H6
      simp only [List.append_assoc] at H6
      obtain ⟨a1,k1,a2,k2,a3,Y,k3,k4,k5⟩:=h7
      obtain ⟨qa,ea,Ha⟩:=nA H6 (n:=2) (by decide) (by omega) (by show h.da - 3<4; omega) k1
      have Ga:wo a1.2.2=wo ({ h with cb:=0,x0:=false,x1:=false,x2:=false }:Hd):=by rw [ea,show h.da - 3+3=h.da by omega]; exact congrArg (fun x:Hd=>{ x with da:=h.da }) G6
      obtain ⟨a1a,a1b,ga⟩:=a1
      obtain ⟨rfl,rfl⟩:a1a=.r b qa∧a1b=0:=⟨congrArg Prod.fst ea,congrArg (fun y:Cd=>y.2.1) ea⟩
      clear ea k1
      obtain ⟨qb,eb,Hb⟩:=nA0 Ha (n:=2) (by decide) mc.2.1.1 (by show h.cb<4; omega) k2
      have Gb:wo a2.2.2=wo ({ h with x0:=false,x1:=false,x2:=false }:Hd):=by rw [eb]; exact congrArg (fun x:Hd=>{ x with cb:=h.cb }) Ga
      obtain ⟨a2a,a2b,gb⟩:=a2
      obtain ⟨rfl,rfl⟩:a2a=.r b qb∧a2b=0:=⟨congrArg Prod.fst eb,congrArg (fun y:Cd=>y.2.1) eb⟩
      clear eb k2
      have hcb:gb.cb=h.cb:=by have:=congrArg Hd.cb Gb; exact this
      dsimp only at k3
      rw [if_pos rfl] at k3
      obtain ⟨⟨A,m,k3⟩,kY⟩:=k3
      rw [k3] at k4 k5
      dsimp only at k4 k5
      obtain ⟨qc,ec,Hc⟩:=sgs_a X Y Hb mX (by rw [kY,List.length_replicate,hcb]; exact mc.2.2.symm)
      rw [ec] at k4 k5
      exact ⟨qc,_,k4,Gb,k5,Hc⟩
    · rw [if_neg (fun q=>hc (by rw [← hcd]; exact q.1))] at h7
      rw [if_neg hc] at mc H6
      simp only [List.nil_append] at H6
      refine ⟨q6,g6,h7.1,?_,?_,H6⟩
      · rw [G6]
        exact u_cd mc.1 mc.2.1
      · rw [h7.2]; exact (List.length_eq_zero_iff.1 mc.2.2).symm
  obtain ⟨q7,g7,rfl,G7,rfl,H7⟩:=S7
  replace G7:wo g7=wo ({ h with x0:=false,x1:=false,x2:=false }:Hd):=G7
  obtain ⟨q8,e8,H8⟩:=fA H7  h8
  have G8:wo c8.2.2=wo ({ h with x1:=false,x2:=false }:Hd):=by rw [e8]; exact congrArg (fun x:Hd=>{ x with x0:=h.x0 }) G7
  obtain ⟨c8a,c8b,g8⟩:=c8
  obtain ⟨rfl,rfl⟩:c8a=.r b q8∧c8b=0:=⟨congrArg Prod.fst e8,congrArg (fun y:Cd=>y.2.1) e8⟩
  clear e8 h8
  replace G8:wo g8=wo ({ h with x1:=false,x2:=false }:Hd):=G8
  obtain ⟨q9,e9,H9⟩:=fA H8  h9
  have G9:wo c9.2.2=wo ({ h with x2:=false }:Hd):=by rw [e9]; exact congrArg (fun x:Hd=>{ x with x1:=h.x1 }) G8
  obtain ⟨c9a,c9b,g9⟩:=c9
  obtain ⟨rfl,rfl⟩:c9a=.r b q9∧c9b=0:=⟨congrArg Prod.fst e9,congrArg (fun y:Cd=>y.2.1) e9⟩
  clear e9 h9
  replace G9:wo g9=wo ({ h with x2:=false }:Hd):=G9
  obtain ⟨q10,e10,H10⟩:=fA H9 h10
  refine ⟨q10,by rw [e10],by rw [e10],?_,rfl,H10⟩
  rw [e10]; exact congrArg (fun x:Hd=>{ x with x2:=h.x2 }) G9
end
end Go.Zt
