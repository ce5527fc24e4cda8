/- Layer 20: a whole header's bits,where they stand,are read. Plain. -/
import Derived.Test.YtgepgbblmodagaaZnH
import Derived.Test.YtgepgbblmodagaaZlP
import Derived.Test.YtgepgbblmodagaaZmA
import Derived.Test.YtgepgbblmodagaaProg
import Derived.Test.YtgepgbblmodagaaZkA
import Derived.Test.YtgepgbblmodagaaZqT
set_option linter.unusedSimpArgs false
set_option linter.unusedVariables false
set_option maxRecDepth 100000
namespace Go.Zt
open Go Go.Sim Go.Proofs Go.RowKit
section
variable {b:List Nat} {z p:Nat} {l:List Nat} {h g:Hd} {c:Cd} {X:List Sg} {w e:Int}
theorem u_less (hm:h.mayF X=true) (hl:h.less=true):wo ({ h with l0:=0,l1:=0,l2:=0,l3:=0,sp:=0,cd:=false,da:=0,cb:=0,x0:=false,x1:=false,x2:=false }:Hd)=wo h∧X=[]:=by
  unfold Hd.mayF at hm
  rw [if_pos hl] at hm
  obtain ⟨⟨e1,e2,e3,e4⟩,e5,e6,e7,e8,e9,e10,e11,e12⟩:=of_decide_eq_true hm
  refine ⟨?_,List.length_eq_zero_iff.1 e9⟩
  clear hm hl
  cases h
  simp only at e1 e2 e3 e4 e5 e6 e7 e8 e10 e11 e12
  subst e1 e2 e3 e4 e5 e6 e7 e8 e10 e11 e12
  rfl
theorem tail_a (H:At b z p (tBits h X ++ l)) (md:(-31≤h.d0∧h.d0≤31)∧(-31≤h.d1∧h.d1≤31)∧(-31≤h.d2∧h.d2≤31)∧(-31≤h.d3∧h.d3≤31)∧(-31≤h.d4∧h.d4≤31)) (mco:logM h.co w=true) (mro:logM h.ro e=true) (mf:h.mayF X=true) (hg:wo g=wo ({ h with d0:=0,d1:=0,d2:=0,d3:=0,d4:=0,co:=0,ro:=0,na:=false,l0:=0,l1:=0,l2:=0,l3:=0,sp:=0,cd:=false,da:=0,cb:=0,x0:=false,x1:=false,x2:=false }:Hd)) {X':List Sg} (ht:TailT w e (.r b p,0,g) [] c X'):∃ q,c.1=.r b q∧c.2.1=0∧wo c.2.2=wo h∧X'=X∧At b z q l:=by
  obtain ⟨c1,h1,c2,h2,c3,h3,c4,h4,c5,h5,c6,h6,c7,h7,c8,h8,h9⟩:=ht
  unfold tBits at H
  simp only [List.append_assoc] at H
  have G0:=hg
  obtain ⟨q1,e1,H1⟩:=dA H md.1 (by have:=congrArg Hd.d0 G0; exact this) h1
  have G1:wo c1.2.2=wo ({ h with d1:=0,d2:=0,d3:=0,d4:=0,co:=0,ro:=0,na:=false,l0:=0,l1:=0,l2:=0,l3:=0,sp:=0,cd:=false,da:=0,cb:=0,x0:=false,x1:=false,x2:=false }:Hd):=by rw [e1]; exact congrArg (fun x:Hd=>{ x with d0:=h.d0 }) G0
  obtain ⟨c1a,c1b,g1⟩:=c1
  obtain ⟨rfl,rfl⟩:c1a=.r b q1∧c1b=0:=⟨congrArg Prod.fst e1,congrArg (fun y:Cd=>y.2.1) e1⟩
  clear e1 h1
  replace G1:wo g1=wo ({ h with d1:=0,d2:=0,d3:=0,d4:=0,co:=0,ro:=0,na:=false,l0:=0,l1:=0,l2:=0,l3:=0,sp:=0,cd:=false,da:=0,cb:=0,x0:=false,x1:=false,x2:=false }:Hd):=G1
  obtain ⟨q2,e2,H2⟩:=dA H1 md.2.1 (by have:=congrArg Hd.d1 G1; exact this) h2
  have G2:wo c2.2.2=wo ({ h with d2:=0,d3:=0,d4:=0,co:=0,ro:=0,na:=false,l0:=0,l1:=0,l2:=0,l3:=0,sp:=0,cd:=false,da:=0,cb:=0,x0:=false,x1:=false,x2:=false }:Hd):=by rw [e2]; exact congrArg (fun x:Hd=>{ x with d1:=h.d1 }) G1
  obtain ⟨c2a,c2b,g2⟩:=c2
  obtain ⟨rfl,rfl⟩:c2a=.r b q2∧c2b=0:=⟨congrArg Prod.fst e2,congrArg (fun y:Cd=>y.2.1) e2⟩
  clear e2 h2
  replace G2:wo g2=wo ({ h with d2:=0,d3:=0,d4:=0,co:=0,ro:=0,na:=false,l0:=0,l1:=0,l2:=0,l3:=0,sp:=0,cd:=false,da:=0,cb:=0,x0:=false,x1:=false,x2:=false }:Hd):=G2
  obtain ⟨q3,e3,H3⟩:=dA H2 md.2.2.1 (by have:=congrArg Hd.d2 G2; exact this) h3
  have G3:wo c3.2.2=wo ({ h with d3:=0,d4:=0,co:=0,ro:=0,na:=false,l0:=0,l1:=0,l2:=0,l3:=0,sp:=0,cd:=false,da:=0,cb:=0,x0:=false,x1:=false,x2:=false }:Hd):=by rw [e3]; exact congrArg (fun x:Hd=>{ x with d2:=h.d2 }) G2
  obtain ⟨c3a,c3b,g3⟩:=c3
  obtain ⟨rfl,rfl⟩:c3a=.r b q3∧c3b=0:=⟨congrArg Prod.fst e3,congrArg (fun y:Cd=>y.2.1) e3⟩
  clear e3 h3
  replace G3:wo g3=wo ({ h with d3:=0,d4:=0,co:=0,ro:=0,na:=false,l0:=0,l1:=0,l2:=0,l3:=0,sp:=0,cd:=false,da:=0,cb:=0,x0:=false,x1:=false,x2:=false }:Hd):=G3
  obtain ⟨q4,e4,H4⟩:=dA H3 md.2.2.2.1 (by have:=congrArg Hd.d3 G3; exact this) h4
  have G4:wo c4.2.2=wo ({ h with d4:=0,co:=0,ro:=0,na:=false,l0:=0,l1:=0,l2:=0,l3:=0,sp:=0,cd:=false,da:=0,cb:=0,x0:=false,x1:=false,x2:=false }:Hd):=by rw [e4]; exact congrArg (fun x:Hd=>{ x with d3:=h.d3 }) G3
  obtain ⟨c4a,c4b,g4⟩:=c4
  obtain ⟨rfl,rfl⟩:c4a=.r b q4∧c4b=0:=⟨congrArg Prod.fst e4,congrArg (fun y:Cd=>y.2.1) e4⟩
  clear e4 h4
  replace G4:wo g4=wo ({ h with d4:=0,co:=0,ro:=0,na:=false,l0:=0,l1:=0,l2:=0,l3:=0,sp:=0,cd:=false,da:=0,cb:=0,x0:=false,x1:=false,x2:=false }:Hd):=G4
  obtain ⟨q5,e5,H5⟩:=dA H4 md.2.2.2.2 (by have:=congrArg Hd.d4 G4; exact this) h5
  have G5:wo c5.2.2=wo ({ h with co:=0,ro:=0,na:=false,l0:=0,l1:=0,l2:=0,l3:=0,sp:=0,cd:=false,da:=0,cb:=0,x0:=false,x1:=false,x2:=false }:Hd):=by rw [e5]; exact congrArg (fun x:Hd=>{ x with d4:=h.d4 }) G4
  obtain ⟨c5a,c5b,g5⟩:=c5
  obtain ⟨rfl,rfl⟩:c5a=.r b q5∧c5b=0:=⟨congrArg Prod.fst e5,congrArg (fun y:Cd=>y.2.1) e5⟩
  clear e5 h5
  replace G5:wo g5=wo ({ h with co:=0,ro:=0,na:=false,l0:=0,l1:=0,l2:=0,l3:=0,sp:=0,cd:=false,da:=0,cb:=0,x0:=false,x1:=false,x2:=false }:Hd):=G5
  obtain ⟨q6,e6,H6⟩:=lA H5 mco h6
  have G6:wo c6.2.2=wo ({ h with ro:=0,na:=false,l0:=0,l1:=0,l2:=0,l3:=0,sp:=0,cd:=false,da:=0,cb:=0,x0:=false,x1:=false,x2:=false }:Hd):=by rw [e6]; exact congrArg (fun x:Hd=>{ x with co:=h.co }) G5
  obtain ⟨c6a,c6b,g6⟩:=c6
  obtain ⟨rfl,rfl⟩:c6a=.r b q6∧c6b=0:=⟨congrArg Prod.fst e6,congrArg (fun y:Cd=>y.2.1) e6⟩
  clear e6 h6
  replace G6:wo g6=wo ({ h with ro:=0,na:=false,l0:=0,l1:=0,l2:=0,l3:=0,sp:=0,cd:=false,da:=0,cb:=0,x0:=false,x1:=false,x2:=false }:Hd):=G6
  obtain ⟨q7,e7,H7⟩:=lA H6 mro h7
  have G7:wo c7.2.2=wo ({ h with na:=false,l0:=0,l1:=0,l2:=0,l3:=0,sp:=0,cd:=false,da:=0,cb:=0,x0:=false,x1:=false,x2:=false }:Hd):=by rw [e7]; exact congrArg (fun x:Hd=>{ x with ro:=h.ro }) G6
  obtain ⟨c7a,c7b,g7⟩:=c7
  obtain ⟨rfl,rfl⟩:c7a=.r b q7∧c7b=0:=⟨congrArg Prod.fst e7,congrArg (fun y:Cd=>y.2.1) e7⟩
  clear e7 h7
  replace G7:wo g7=wo ({ h with na:=false,l0:=0,l1:=0,l2:=0,l3:=0,sp:=0,cd:=false,da:=0,cb:=0,x0:=false,x1:=false,x2:=false }:Hd):=G7
  obtain ⟨q8,e8,H8⟩:=fA H7  h8
  have G8:wo c8.2.2=wo ({ h with l0:=0,l1:=0,l2:=0,l3:=0,sp:=0,cd:=false,da:=0,cb:=0,x0:=false,x1:=false,x2:=false }:Hd):=by rw [e8]; exact congrArg (fun x:Hd=>{ x with na:=h.na }) G7
  obtain ⟨c8a,c8b,g8⟩:=c8
  obtain ⟨rfl,rfl⟩:c8a=.r b q8∧c8b=0:=⟨congrArg Prod.fst e8,congrArg (fun y:Cd=>y.2.1) e8⟩
  clear e8 h8
  replace G8:wo g8=wo ({ h with l0:=0,l1:=0,l2:=0,l3:=0,sp:=0,cd:=false,da:=0,cb:=0,x0:=false,x1:=false,x2:=false }:Hd):=G8
  have hl:g8.less=h.less:=by have:=congrArg Hd.less G8; exact this
  cases hc:h.less with
  | true=>
    rw [if_pos (by show g8.less=true; rw [hl,hc])] at h9
    rw [if_pos hc] at H8
    obtain ⟨u1,u2⟩:=u_less mf hc
    exact ⟨q8,by rw [h9.1],by rw [h9.1],by rw [h9.1]; exact G8.trans u1,by rw [h9.2,u2],by simpa using H8⟩
  | false=>
    rw [if_neg (by show ¬ g8.less=true; rw [hl,hc]; decide)] at h9
    rw [if_neg (by rw [hc]; decide)] at H8
    exact filt_a H8 mf hc G8 h9
theorem u_ref (e1:(h.r0=0∧h.r1=0∧h.r2=0)∧h.pr = -1):wo ({ h with r0:=0,r1:=0,r2:=0,pr := -1,ba:=0,d0:=0,d1:=0,d2:=0,d3:=0,d4:=0,co:=0,ro:=0,na:=false,l0:=0,l1:=0,l2:=0,l3:=0,sp:=0,cd:=false,da:=0,cb:=0,x0:=false,x1:=false,x2:=false }:Hd)=wo ({ h with ba:=0,d0:=0,d1:=0,d2:=0,d3:=0,d4:=0,co:=0,ro:=0,na:=false,l0:=0,l1:=0,l2:=0,l3:=0,sp:=0,cd:=false,da:=0,cb:=0,x0:=false,x1:=false,x2:=false }:Hd):=by
  obtain ⟨⟨a1,a2,a3⟩,a4⟩:=e1
  cases h
  simp only at a1 a2 a3 a4
  subst a1 a2 a3 a4
  rfl
theorem u_pr (e1:h.pr = -1):wo ({ h with pr := -1,ba:=0,d0:=0,d1:=0,d2:=0,d3:=0,d4:=0,co:=0,ro:=0,na:=false,l0:=0,l1:=0,l2:=0,l3:=0,sp:=0,cd:=false,da:=0,cb:=0,x0:=false,x1:=false,x2:=false }:Hd)=wo ({ h with ba:=0,d0:=0,d1:=0,d2:=0,d3:=0,d4:=0,co:=0,ro:=0,na:=false,l0:=0,l1:=0,l2:=0,l3:=0,sp:=0,cd:=false,da:=0,cb:=0,x0:=false,x1:=false,x2:=false }:Hd):=by
  cases h
  simp only at e1
  subst e1
  rfl
theorem ref_a (H:At b z p (rBits h ++ l)) (pr : -1≤h.pr∧h.pr≤7) (mk:h.ke=true→(h.r0=0∧h.r1=0∧h.r2=0)∧h.pr = -1) (mr:(0≤h.r0∧h.r0≤7)∧(0≤h.r1∧h.r1≤7)∧(0≤h.r2∧h.r2≤7)) (hg:wo g=wo ({ h with r0:=0,r1:=0,r2:=0,pr:=0,ba:=0,d0:=0,d1:=0,d2:=0,d3:=0,d4:=0,co:=0,ro:=0,na:=false,l0:=0,l1:=0,l2:=0,l3:=0,sp:=0,cd:=false,da:=0,cb:=0,x0:=false,x1:=false,x2:=false }:Hd)) (ht:RefT (.r b p,0,g) c):∃ q g',c=(.r b q,0,g')∧wo g'=wo ({ h with ba:=0,d0:=0,d1:=0,d2:=0,d3:=0,d4:=0,co:=0,ro:=0,na:=false,l0:=0,l1:=0,l2:=0,l3:=0,sp:=0,cd:=false,da:=0,cb:=0,x0:=false,x1:=false,x2:=false }:Hd)∧At b z q l:=by
  obtain ⟨c1,t,k1,k2⟩:=ht
  unfold rBits at H
  have hk:g.ke=h.ke:=by have:=congrArg Hd.ke hg; exact this
  have G0:=hg
  by_cases hc:h.ke=true
  · rw [if_pos (by show g.ke=true; rw [hk,hc])] at k1
    rw [if_pos hc] at H
    obtain ⟨k1,rfl⟩:=k1
    subst k1
    rw [if_neg (by decide)] at k2
    refine ⟨p,_,k2,?_,by simpa using H⟩
    exact (congrArg (fun x:Hd=>{ x with pr := -1 }) G0).trans (u_ref (mk hc))
  · rw [if_neg (by show ¬ g.ke=true; rw [hk]; exact hc)] at k1
    rw [if_neg hc] at H
    simp only [List.append_assoc] at H
    obtain ⟨c1',h1,c2,h2,c3,h3,h4,h5⟩:=k1
    obtain ⟨q1,e1,H1⟩:=nA0 H (n:=3) (by decide) mr.1.1 (by show h.r0<8; omega) h1
    have G1:wo c1'.2.2=wo ({ h with r1:=0,r2:=0,pr:=0,ba:=0,d0:=0,d1:=0,d2:=0,d3:=0,d4:=0,co:=0,ro:=0,na:=false,l0:=0,l1:=0,l2:=0,l3:=0,sp:=0,cd:=false,da:=0,cb:=0,x0:=false,x1:=false,x2:=false }:Hd):=by rw [e1]; exact congrArg (fun x:Hd=>{ x with r0:=h.r0 }) G0
    obtain ⟨ca1,cb1,g1⟩:=c1'
    obtain ⟨rfl,rfl⟩:ca1=.r b q1∧cb1=0:=⟨congrArg Prod.fst e1,congrArg (fun y:Cd=>y.2.1) e1⟩
    clear e1 h1
    replace G1:wo g1=wo ({ h with r1:=0,r2:=0,pr:=0,ba:=0,d0:=0,d1:=0,d2:=0,d3:=0,d4:=0,co:=0,ro:=0,na:=false,l0:=0,l1:=0,l2:=0,l3:=0,sp:=0,cd:=false,da:=0,cb:=0,x0:=false,x1:=false,x2:=false }:Hd):=G1
    obtain ⟨q2,e2,H2⟩:=nA0 H1 (n:=3) (by decide) mr.2.1.1 (by show h.r1<8; omega) h2
    have G2:wo c2.2.2=wo ({ h with r2:=0,pr:=0,ba:=0,d0:=0,d1:=0,d2:=0,d3:=0,d4:=0,co:=0,ro:=0,na:=false,l0:=0,l1:=0,l2:=0,l3:=0,sp:=0,cd:=false,da:=0,cb:=0,x0:=false,x1:=false,x2:=false }:Hd):=by rw [e2]; exact congrArg (fun x:Hd=>{ x with r1:=h.r1 }) G1
    obtain ⟨ca2,cb2,g2⟩:=c2
    obtain ⟨rfl,rfl⟩:ca2=.r b q2∧cb2=0:=⟨congrArg Prod.fst e2,congrArg (fun y:Cd=>y.2.1) e2⟩
    clear e2 h2
    replace G2:wo g2=wo ({ h with r2:=0,pr:=0,ba:=0,d0:=0,d1:=0,d2:=0,d3:=0,d4:=0,co:=0,ro:=0,na:=false,l0:=0,l1:=0,l2:=0,l3:=0,sp:=0,cd:=false,da:=0,cb:=0,x0:=false,x1:=false,x2:=false }:Hd):=G2
    obtain ⟨q3,e3,H3⟩:=nA0 H2 (n:=3) (by decide) mr.2.2.1 (by show h.r2<8; omega) h3
    have G3:wo c3.2.2=wo ({ h with pr:=0,ba:=0,d0:=0,d1:=0,d2:=0,d3:=0,d4:=0,co:=0,ro:=0,na:=false,l0:=0,l1:=0,l2:=0,l3:=0,sp:=0,cd:=false,da:=0,cb:=0,x0:=false,x1:=false,x2:=false }:Hd):=by rw [e3]; exact congrArg (fun x:Hd=>{ x with r2:=h.r2 }) G2
    obtain ⟨ca3,cb3,g3⟩:=c3
    obtain ⟨rfl,rfl⟩:ca3=.r b q3∧cb3=0:=⟨congrArg Prod.fst e3,congrArg (fun y:Cd=>y.2.1) e3⟩
    clear e3 h3
    replace G3:wo g3=wo ({ h with pr:=0,ba:=0,d0:=0,d1:=0,d2:=0,d3:=0,d4:=0,co:=0,ro:=0,na:=false,l0:=0,l1:=0,l2:=0,l3:=0,sp:=0,cd:=false,da:=0,cb:=0,x0:=false,x1:=false,x2:=false }:Hd):=G3
    obtain ⟨f1,f2⟩:=flag_a (v:=decide (g.pr ≥ 0)) H3
    simp only [f1] at h4 h5
    subst h4 h5
    by_cases hp:h.pr ≥ 0
    · rw [if_pos (decide_eq_true hp)] at k2
      rw [if_pos hp] at f2
      obtain ⟨q4,e4,H4⟩:=nA0 f2 (n:=3) (by decide) hp (by show h.pr<8; omega) k2
      exact ⟨q4,_,e4,congrArg (fun x:Hd=>{ x with pr:=h.pr }) G3,H4⟩
    · have hp':h.pr = -1:=by omega
      rw [if_neg (by simpa using hp)] at k2
      rw [if_neg hp,List.nil_append] at f2
      exact ⟨q3+1,_,k2,(congrArg (fun x:Hd=>{ x with pr := -1 }) G3).trans (u_pr (h:=h) hp'),f2⟩
theorem u_ex (hx:h.ex=true) (hm:h.mt X=true):wo ({ h with sh:=false,ke:=false,rf:=0,r0:=0,r1:=0,r2:=0,pr:=0,ba:=0,d0:=0,d1:=0,d2:=0,d3:=0,d4:=0,co:=0,ro:=0,na:=false,l0:=0,l1:=0,l2:=0,l3:=0,sp:=0,cd:=false,da:=0,cb:=0,x0:=false,x1:=false,x2:=false }:Hd)=wo h∧X=[]:=by
  obtain ⟨a1,a2,a3,⟨a4,a5,a6⟩,a7,a8,a9,a10,a11,a12⟩:=of_decide_eq_true hm
  obtain ⟨b1,b2⟩:=u_less a12 a8
  obtain ⟨d0,d1,d2,d3,d4,d5⟩:=of_decide_eq_true a8
  refine ⟨?_,b2⟩
  rw [← b1]
  clear b1 a12 a8 hm
  cases h
  simp only at *
  subst a1 a2 a3 a4 a5 a6 a7 a9 a10 a11 d0 d1 d2 d3 d4 d5
  rfl
theorem u_sl (e1:h.sl=0):wo ({ h with sl:=0,sh:=false,ke:=false,rf:=0,r0:=0,r1:=0,r2:=0,pr:=0,ba:=0,d0:=0,d1:=0,d2:=0,d3:=0,d4:=0,co:=0,ro:=0,na:=false,l0:=0,l1:=0,l2:=0,l3:=0,sp:=0,cd:=false,da:=0,cb:=0,x0:=false,x1:=false,x2:=false }:Hd)=wo ({ h with sh:=false,ke:=false,rf:=0,r0:=0,r1:=0,r2:=0,pr:=0,ba:=0,d0:=0,d1:=0,d2:=0,d3:=0,d4:=0,co:=0,ro:=0,na:=false,l0:=0,l1:=0,l2:=0,l3:=0,sp:=0,cd:=false,da:=0,cb:=0,x0:=false,x1:=false,x2:=false }:Hd):=by
  cases h
  simp only at e1
  subst e1
  rfl
theorem head_a (H:At b z p (hBits h X ++ l)) (hm:h.may X w e=true) {X':List Sg} (ht:HeadT w e (.r b p,0,zP) [] c X'):∃ q,c.1=.r b q∧c.2.1=0∧wo c.2.2=wo h∧X'=X∧At b z q l:=by
  have mS:mayS w e=true:=by unfold Hd.may at hm; simp only [Bool.and_eq_true] at hm; exact hm.1.1.1
  obtain ⟨c1,h1,ht⟩:=ht
  unfold hBits at H
  simp only [List.append_assoc] at H
  have G0:wo zP=wo ({ h with ex:=false,sl:=0,sh:=false,ke:=false,rf:=0,r0:=0,r1:=0,r2:=0,pr:=0,ba:=0,d0:=0,d1:=0,d2:=0,d3:=0,d4:=0,co:=0,ro:=0,na:=false,l0:=0,l1:=0,l2:=0,l3:=0,sp:=0,cd:=false,da:=0,cb:=0,x0:=false,x1:=false,x2:=false }:Hd):=rfl
  obtain ⟨q1,e1,H1⟩:=fA H  h1
  have G1:wo c1.2.2=wo ({ h with sl:=0,sh:=false,ke:=false,rf:=0,r0:=0,r1:=0,r2:=0,pr:=0,ba:=0,d0:=0,d1:=0,d2:=0,d3:=0,d4:=0,co:=0,ro:=0,na:=false,l0:=0,l1:=0,l2:=0,l3:=0,sp:=0,cd:=false,da:=0,cb:=0,x0:=false,x1:=false,x2:=false }:Hd):=by rw [e1]; exact congrArg (fun x:Hd=>{ x with ex:=h.ex }) G0
  obtain ⟨c1a,c1b,g1⟩:=c1
  obtain ⟨rfl,rfl⟩:c1a=.r b q1∧c1b=0:=⟨congrArg Prod.fst e1,congrArg (fun y:Cd=>y.2.1) e1⟩
  clear e1 h1
  replace G1:wo g1=wo ({ h with sl:=0,sh:=false,ke:=false,rf:=0,r0:=0,r1:=0,r2:=0,pr:=0,ba:=0,d0:=0,d1:=0,d2:=0,d3:=0,d4:=0,co:=0,ro:=0,na:=false,l0:=0,l1:=0,l2:=0,l3:=0,sp:=0,cd:=false,da:=0,cb:=0,x0:=false,x1:=false,x2:=false }:Hd):=G1
  have hx:g1.ex=h.ex:=by have:=congrArg Hd.ex G1; exact this
  cases hc:h.ex with
  | true=>
    rw [if_pos (by show g1.ex=true; rw [hx,hc])] at ht
    rw [if_pos hc] at H1
    unfold Hd.may at hm
    simp only [hc,if_true,Bool.and_eq_true,decide_eq_true_eq] at hm
    have sl:=hm.1.1.2
    obtain ⟨q2,e2,H2⟩:=nA0 H1 (n:=3) (by decide) sl.1.1 (by show h.sl<8; omega) ht.1
    obtain ⟨u1,u2⟩:=u_ex hc sl.2
    exact ⟨q2,by rw [e2],by rw [e2],by rw [e2]; exact (congrArg (fun x:Hd=>{ x with sl:=h.sl }) G1).trans u1,by rw [ht.2,u2],H2⟩
  | false=>
    rw [if_neg (by show ¬ g1.ex=true; rw [hx,hc]; decide)] at ht
    rw [if_neg (by rw [hc]; decide)] at H1
    simp only [List.append_assoc] at H1
    obtain ⟨⟨sl,rf,pr,ba⟩,mk,mr,md,mco,mro,mf⟩:=(may_iff hc mS).1 hm
    obtain ⟨c2,h2,c3,h3,c4,h4,c5,h5,c6,h6,ht⟩:=ht
    replace G1:=G1.trans (u_sl sl)
    obtain ⟨q2,e2,H2⟩:=fA H1  h2
    have G2:wo c2.2.2=wo ({ h with ke:=false,rf:=0,r0:=0,r1:=0,r2:=0,pr:=0,ba:=0,d0:=0,d1:=0,d2:=0,d3:=0,d4:=0,co:=0,ro:=0,na:=false,l0:=0,l1:=0,l2:=0,l3:=0,sp:=0,cd:=false,da:=0,cb:=0,x0:=false,x1:=false,x2:=false }:Hd):=by rw [e2]; exact congrArg (fun x:Hd=>{ x with sh:=h.sh }) G1
    obtain ⟨c2a,c2b,g2⟩:=c2
    obtain ⟨rfl,rfl⟩:c2a=.r b q2∧c2b=0:=⟨congrArg Prod.fst e2,congrArg (fun y:Cd=>y.2.1) e2⟩
    clear e2 h2
    replace G2:wo g2=wo ({ h with ke:=false,rf:=0,r0:=0,r1:=0,r2:=0,pr:=0,ba:=0,d0:=0,d1:=0,d2:=0,d3:=0,d4:=0,co:=0,ro:=0,na:=false,l0:=0,l1:=0,l2:=0,l3:=0,sp:=0,cd:=false,da:=0,cb:=0,x0:=false,x1:=false,x2:=false }:Hd):=G2
    obtain ⟨q3,e3,H3⟩:=fA H2  h3
    have G3:wo c3.2.2=wo ({ h with rf:=0,r0:=0,r1:=0,r2:=0,pr:=0,ba:=0,d0:=0,d1:=0,d2:=0,d3:=0,d4:=0,co:=0,ro:=0,na:=false,l0:=0,l1:=0,l2:=0,l3:=0,sp:=0,cd:=false,da:=0,cb:=0,x0:=false,x1:=false,x2:=false }:Hd):=by rw [e3]; exact congrArg (fun x:Hd=>{ x with ke:=h.ke }) G2
    obtain ⟨c3a,c3b,g3⟩:=c3
    obtain ⟨rfl,rfl⟩:c3a=.r b q3∧c3b=0:=⟨congrArg Prod.fst e3,congrArg (fun y:Cd=>y.2.1) e3⟩
    clear e3 h3
    replace G3:wo g3=wo ({ h with rf:=0,r0:=0,r1:=0,r2:=0,pr:=0,ba:=0,d0:=0,d1:=0,d2:=0,d3:=0,d4:=0,co:=0,ro:=0,na:=false,l0:=0,l1:=0,l2:=0,l3:=0,sp:=0,cd:=false,da:=0,cb:=0,x0:=false,x1:=false,x2:=false }:Hd):=G3
    obtain ⟨q4,e4,H4⟩:=nA0 H3 (n:=8) (by decide) rf.1 (by show h.rf<256; omega) h4
    have G4:wo c4.2.2=wo ({ h with r0:=0,r1:=0,r2:=0,pr:=0,ba:=0,d0:=0,d1:=0,d2:=0,d3:=0,d4:=0,co:=0,ro:=0,na:=false,l0:=0,l1:=0,l2:=0,l3:=0,sp:=0,cd:=false,da:=0,cb:=0,x0:=false,x1:=false,x2:=false }:Hd):=by rw [e4]; exact congrArg (fun x:Hd=>{ x with rf:=h.rf }) G3
    obtain ⟨c4a,c4b,g4⟩:=c4
    obtain ⟨rfl,rfl⟩:c4a=.r b q4∧c4b=0:=⟨congrArg Prod.fst e4,congrArg (fun y:Cd=>y.2.1) e4⟩
    clear e4 h4
    replace G4:wo g4=wo ({ h with r0:=0,r1:=0,r2:=0,pr:=0,ba:=0,d0:=0,d1:=0,d2:=0,d3:=0,d4:=0,co:=0,ro:=0,na:=false,l0:=0,l1:=0,l2:=0,l3:=0,sp:=0,cd:=false,da:=0,cb:=0,x0:=false,x1:=false,x2:=false }:Hd):=G4
    obtain ⟨q5,g5,rfl,G5,H5⟩:=ref_a H4 pr mk mr G4 h5
    obtain ⟨q6,e6,H6⟩:=nA0 H5 (n:=8) (by decide) ba.1 (by show h.ba<256; omega) h6
    have G6:wo c6.2.2=wo ({ h with d0:=0,d1:=0,d2:=0,d3:=0,d4:=0,co:=0,ro:=0,na:=false,l0:=0,l1:=0,l2:=0,l3:=0,sp:=0,cd:=false,da:=0,cb:=0,x0:=false,x1:=false,x2:=false }:Hd):=by rw [e6]; exact congrArg (fun x:Hd=>{ x with ba:=h.ba }) G5
    obtain ⟨c6a,c6b,g6⟩:=c6
    obtain ⟨rfl,rfl⟩:c6a=.r b q6∧c6b=0:=⟨congrArg Prod.fst e6,congrArg (fun y:Cd=>y.2.1) e6⟩
    clear e6 h6
    replace G6:wo g6=wo ({ h with d0:=0,d1:=0,d2:=0,d3:=0,d4:=0,co:=0,ro:=0,na:=false,l0:=0,l1:=0,l2:=0,l3:=0,sp:=0,cd:=false,da:=0,cb:=0,x0:=false,x1:=false,x2:=false }:Hd):=G6
    exact tail_a H6 md mco mro mf G6 ht
end
end Go.Zt

/- Layer 20: helps for HeadsBack: thirty cells read,heads seen,packed bits. -/
set_option linter.unusedSimpArgs false
set_option linter.unusedVariables false
set_option maxRecDepth 100000
namespace Go.Zt
open Go Go.Sim Go.Proofs Go.RowKit
def HdAt (M:Mem) (blk off:Nat) (h:Hd):Prop:=∀ o,o<30→M.cell blk (off+o)=h.cs[o]?
theorem on30 {M:Mem} {blk off:Nat} {h:Hd} {P:Bool→Int→Bool→Bool→Int→Int→Int→Int→Int→Int→Int→Int→Int→Int→Int→Int→Int→Bool→Int→Int→Int→Int→Int→Bool→Int→Int→(Option Addr × Nat × Nat)→Bool→Bool→Bool→Prop} (hc:HdAt M blk off h) (k:P h.ex h.sl h.sh h.ke h.rf h.r0 h.r1 h.r2 h.pr h.ba h.d0 h.d1 h.d2 h.d3 h.d4 h.co h.ro h.na h.l0 h.l1 h.l2 h.l3 h.sp h.cd h.da h.cb (h.A,h.n,h.c) h.x0 h.x1 h.x2):onS (M.boolAt blk off) fun y0=>onS (M.intAt .i64 blk (off+1)) fun y1=>onS (M.boolAt blk (off+2)) fun y2=>onS (M.boolAt blk (off+3)) fun y3=>onS (M.intAt .i64 blk (off+4)) fun y4=>onS (M.intAt .i64 blk (off+5)) fun y5=>onS (M.intAt .i64 blk (off+6)) fun y6=>onS (M.intAt .i64 blk (off+7)) fun y7=>onS (M.intAt .i64 blk (off+8)) fun y8=>onS (M.intAt .i64 blk (off+9)) fun y9=>onS (M.intAt .i64 blk (off+10)) fun y10=>onS (M.intAt .i64 blk (off+11)) fun y11=>onS (M.intAt .i64 blk (off+12)) fun y12=>onS (M.intAt .i64 blk (off+13)) fun y13=>onS (M.intAt .i64 blk (off+14)) fun y14=>onS (M.intAt .i64 blk (off+15)) fun y15=>onS (M.intAt .i64 blk (off+16)) fun y16=>onS (M.boolAt blk (off+17)) fun y17=>onS (M.intAt .i64 blk (off+18)) fun y18=>onS (M.intAt .i64 blk (off+19)) fun y19=>onS (M.intAt .i64 blk (off+20)) fun y20=>onS (M.intAt .i64 blk (off+21)) fun y21=>onS (M.intAt .i64 blk (off+22)) fun y22=>onS (M.boolAt blk (off+23)) fun y23=>onS (M.intAt .i64 blk (off+24)) fun y24=>onS (M.intAt .i64 blk (off+25)) fun y25=>onS (M.slAt blk (off+26)) fun y26=>onS (M.boolAt blk (off+27)) fun y27=>onS (M.boolAt blk (off+28)) fun y28=>onS (M.boolAt blk (off+29)) fun y29=>P y0 y1 y2 y3 y4 y5 y6 y7 y8 y9 y10 y11 y12 y13 y14 y15 y16 y17 y18 y19 y20 y21 y22 y23 y24 y25 y26 y27 y28 y29:=
  on (cell_bool (hc 0 (by decide))) (on (cell_int (hc 1 (by decide))) (on (cell_bool (hc 2 (by decide))) (on (cell_bool (hc 3 (by decide))) (on (cell_int (hc 4 (by decide))) (on (cell_int (hc 5 (by decide))) (on (cell_int (hc 6 (by decide))) (on (cell_int (hc 7 (by decide))) (on (cell_int (hc 8 (by decide))) (on (cell_int (hc 9 (by decide))) (on (cell_int (hc 10 (by decide))) (on (cell_int (hc 11 (by decide))) (on (cell_int (hc 12 (by decide))) (on (cell_int (hc 13 (by decide))) (on (cell_int (hc 14 (by decide))) (on (cell_int (hc 15 (by decide))) (on (cell_int (hc 16 (by decide))) (on (cell_bool (hc 17 (by decide))) (on (cell_int (hc 18 (by decide))) (on (cell_int (hc 19 (by decide))) (on (cell_int (hc 20 (by decide))) (on (cell_int (hc 21 (by decide))) (on (cell_int (hc 22 (by decide))) (on (cell_bool (hc 23 (by decide))) (on (cell_int (hc 24 (by decide))) (on (cell_int (hc 25 (by decide))) (on (cell_sl (hc 26 (by decide))) (on (cell_bool (hc 27 (by decide))) (on (cell_bool (hc 28 (by decide))) (on (cell_bool (hc 29 (by decide))) (k))))))))))))))))))))))))))))))
theorem hdAt {M:Mem} {j:Nat} {h:Hd} {t:TypeId} (a:M.nb[j]?=some (.cells h.cs t)):HdAt M (2*j) 0 h:=fun o ho=>by
  rw [cell_of a,Nat.zero_add]
abbrev Hds (L:List (Hd × List Sg)):List Value:=L.flatMap fun x=>x.1.cs.toList
theorem Hds_len (L:List (Hd × List Sg)):(Hds L).length=30*L.length:=by
  induction L with
  | nil=>rfl
  | cons x L ih=>simp only [Hds,List.flatMap_cons,List.length_append,List.length_cons] at ih ⊢; rw [ih]; show 30+_=_; omega
theorem Hds_at {L:List (Hd × List Sg)} {i:Nat} (hi:i<L.length):∀ o,o<30→(Hds L)[i*30+o]?=L[i].1.cs[o]?:=by
  induction L generalizing i with
  | nil=>simp at hi
  | cons x L ih=>
    intro o ho
    have lx:x.1.cs.toList.length=30:=rfl
    cases i with
    | zero=>simp only [Hds,List.flatMap_cons,Nat.zero_mul,Nat.zero_add]; rw [List.getElem?_append_left (by rw [lx]; exact ho)]; simp
    | succ i=>
      simp only [Hds,List.flatMap_cons]
      rw [List.getElem?_append_right (by rw [lx]; omega),show (i+1)*30+o - x.1.cs.toList.length=i*30+o by rw [lx]; omega]
      exact ih (by simpa using hi) o ho
theorem Hds.elt {M:Mem} {A:Option Addr} {L:List (Hd × List Sg)} (hR:Row M A (Hds L)) {n i:Nat} {z:Int} (hz:z=(i:Int)) (hn:i<n) (hi:i<L.length):∃ a,idxA A n 30 z=some a∧HdAt M a.block a.off L[i].1:=by
  have hl:=Hds_len L
  obtain ⟨a,h1,h2⟩:=hR.elt (s:=30) hz hn (by decide) (by omega)
  exact ⟨a,h1,fun o ho=>by rw [h2 o ho]; exact Hds_at hi o ho⟩
def Gd (M:Mem) (B:Nat) (x:Hd × List Sg):Prop:=x.1.n=x.2.length∧x.1.n≤x.1.c∧x.1.n≤B∧Old x.1.A∧Row M x.1.A (Sgs x.2)∧(x.1.A=none→x.1.c=0)
theorem elem67:ElemS Try.prog 67 41 30 232 (.agg zP.cs):=⟨by kernel_rfl,by kernel_rfl,by kernel_rfl,by kernel_rfl,by decide⟩
theorem numb_bit {f:Nat→Nat} (hf:∀ i,f i<2) (a r:Nat) (hr:r<8):numb f a 8 / 2 ^ (7 - r) % 2=f (a+r):=by
  have h:=segN hf 8 a
  have e1:seg f a 8=[f a,f (a+1),f (a+2),f (a+3),f (a+4),f (a+5),f (a+6),f (a+7)]:=rfl
  rw [e1] at h
  simp only [bitsN,List.cons.injEq,and_true] at h
  obtain ⟨h0,h1,h2,h3,h4,h5,h6,h7⟩:=h
  match r,hr with
  | 0,_=>exact h0
  | 1,_=>exact h1
  | 2,_=>exact h2
  | 3,_=>exact h3
  | 4,_=>exact h4
  | 5,_=>exact h5
  | 6,_=>exact h6
  | 7,_=>exact h7
theorem bit_pack {l:List Nat} (hl:Bin l) {i:Nat} (hi:i<8*(pack l).length):bitOf (pack l) i=bitL l i:=by
  have hp:=pack_len l
  have hq:i / 8<(pack l).length:=by omega
  have hg:(pack l).getD (i / 8) 0=gbyte l (i / 8):=by
    rw [List.getD_eq_getElem?_getD,List.getElem?_eq_getElem hq]
    simp [pack]
  unfold bitOf
  rw [hg]
  unfold gbyte
  rw [numb_bit (bitL_lt hl) (8*(i / 8)) (i % 8) (Nat.mod_lt _ (by decide))]
  congr 1
  omega
theorem At.pack {l:List Nat} (hl:Bin l):At (pack l) l.length 0 l:=by
  have hp:=pack_len l
  refine ⟨?_,by omega,by omega⟩
  refine List.ext_getElem (seg_len ..) fun i h1 h2=>?_
  have h3:i<l.length:=h2
  simp only [Go.Zt.seg,List.getElem_map,List.getElem_range,Nat.zero_add]
  rw [bit_pack hl (by omega)]
  simp [bitL,h3]
theorem numb_nil {f:Nat→Nat} {a:Nat}:∀ {n:Nat},(∀ i,a≤i→i<a+n→f i=0)→numb f a n=0
  | 0,_=>rfl
  | n+1,h=>by rw [numb,numb_nil (n:=n) fun i h1 h2=>h i h1 (by omega),h (a+n) (by omega) (by omega)]
theorem align_pack {l:List Nat} (hl:Bin l):rAlign (pack l) l.length=(0,8*(pack l).length):=by
  have hp:=pack_len l
  unfold rAlign
  simp only
  rw [if_neg]
  · congr 1; omega
  · intro h
    refine h (numb_nil fun i h1 h2=>?_)
    rw [bit_pack hl (by omega)]
    exact bitL_out h1
theorem rdS_sqb {w e:Int} (hm:mayS w e=true):rdS (sqb w e)=(w.toNat,e.toNat,0):=by
  obtain ⟨h1,h2,h3,h4,h5,h6⟩:=of_decide_eq_true hm
  unfold sqb
  rw [if_pos hm]
  obtain ⟨u,hu⟩:∃ u:Nat,w=16+2*(u:Int):=⟨((w - 16) / 2).toNat,by omega⟩
  obtain ⟨v,hv⟩:∃ v:Nat,e=16+2*(v:Int):=⟨((e - 16) / 2).toNat,by omega⟩
  have hn:seqN w e=512*u+4*v:=by
    unfold seqN
    rw [hu,hv]
    omega
  have key:seqN w e / 256*256+seqN w e % 256=512*u+4*v:=by rw [hn]; omega
  unfold rdS
  simp only [List.length_cons,List.length_nil,List.getD_cons_zero,List.getD_cons_succ,key]
  rw [if_neg (by decide),if_neg (by omega),if_neg (by omega)]
  congr 1
  · omega
  · congr 1; omega
end Go.Zt

/- The functions' walks: for each function and each loop a rule of what it comes to. Printed by zw2.py. -/
set_option linter.unusedVariables false
set_option maxRecDepth 100000
namespace Go.Zt
open Go Go.Sim Go.Proofs
def tyZlK0:List Sc:=[.bool,.int .i64,.bool,.bool,.int .i64,.int .i64,.int .i64,.int .i64,.int .i64,.int .i64,.int .i64,.int .i64,.int .i64,.int .i64,.int .i64,.int .i64,.int .i64,.bool,.int .i64,.int .i64,.int .i64,.int .i64,.int .i64,.bool,.int .i64,.int .i64,.sl,.bool,.bool,.bool]
def K41:List (List It × List Nat):=[]
def Z41:List (List Nat × List Nat):=[]
theorem b41:Try.prog.funcs[41]?=some Try.f41∧(Orc.tab Try.prog).lookup 41=none∧Try.f41.body=some (codeOf Try.f41):=⟨by kernel_rfl,by kernel_rfl,by kernel_rfl⟩
theorem w41_0 {M:Mem} {Q:Value→Mem→Prop} (H:
 stP (some 30) #[.bool false,.int .i64 0,.bool true,.bool true,.int .i64 255,.int .i64 0,.int .i64 0,.int .i64 0,.int .i64 (-1),.int .i64 0,.int .i64 0,.int .i64 0,.int .i64 0,.int .i64 0,.int .i64 0,.int .i64 0,.int .i64 0,.bool false,.int .i64 0,.int .i64 0,.int .i64 0,.int .i64 0,.int .i64 0,.bool false,.int .i64 0,.int .i64 0,.slice none 0 0,.bool false,.bool false,.bool false] (M.new (.cells #[.bool false,.int .i64 0,.bool false,.bool false,.int .i64 0,.int .i64 0,.int .i64 0,.int .i64 0,.int .i64 0,.int .i64 0,.int .i64 0,.int .i64 0,.int .i64 0,.int .i64 0,.int .i64 0,.int .i64 0,.int .i64 0,.bool false,.int .i64 0,.int .i64 0,.int .i64 0,.int .i64 0,.int .i64 0,.bool false,.int .i64 0,.int .i64 0,.slice none 0 0,.bool false,.bool false,.bool false] 41)) (2*M.nb.size) 0 fun M1'=>
 ldP tyZlK0 M1' (2*M.nb.size) 0 fun vs2'=>
 Q (.agg vs2'.toArray) M1'):
 Cn Try.prog 41 #[] M Q:=
 Cn.mk (cuts:=K41) (sp:=Z41) 900 b41 rfl rfl H fun G=>by kernel_rfl
def K42:List (List It × List Nat):=[([.code [1,1,1,1]],[0,2,3,4])]
def Z42:List (List Nat × List Nat):=[]
theorem b42:Try.prog.funcs[42]?=some Try.f42∧(Orc.tab Try.prog).lookup 42=none∧Try.f42.body=some (codeOf Try.f42):=⟨by kernel_rfl,by kernel_rfl,by kernel_rfl⟩
def A42_1 (x0:Int) (x2 x3 x4:Option Addr) (M:Mem) (Q:Value→Mem→Prop):Prop:=LvP Try.prog Try.f42 [(0,.int .i64 x0),(2,.pointer x2),(3,.pointer x3),(4,.pointer x4)] [.code [1,1,1,1]] M Q
theorem w42_0 {x0:Int} {M:Mem} {Q:Value→Mem→Prop} (H:
 Cn Try.prog 41 #[] (M.new (.cells #[.bool false,.int .i64 0,.bool false,.bool false,.int .i64 0,.int .i64 0,.int .i64 0,.int .i64 0,.int .i64 0,.int .i64 0,.int .i64 0,.int .i64 0,.int .i64 0,.int .i64 0,.int .i64 0,.int .i64 0,.int .i64 0,.bool false,.int .i64 0,.int .i64 0,.int .i64 0,.int .i64 0,.int .i64 0,.bool false,.int .i64 0,.int .i64 0,.slice none 0 0,.bool false,.bool false,.bool false] 41)) fun v1' N1'=>
 tyS (asA 30 v1') fun cs2'=>
 tyS (asB (cs2'.getD 0 undef)) fun b3'=>
 tyS (asI .i64 (cs2'.getD 1 undef)) fun x4'=>
 tyS (asB (cs2'.getD 2 undef)) fun b5'=>
 tyS (asB (cs2'.getD 3 undef)) fun b6'=>
 tyS (asI .i64 (cs2'.getD 4 undef)) fun x7'=>
 tyS (asI .i64 (cs2'.getD 5 undef)) fun x8'=>
 tyS (asI .i64 (cs2'.getD 6 undef)) fun x9'=>
 tyS (asI .i64 (cs2'.getD 7 undef)) fun x10'=>
 tyS (asI .i64 (cs2'.getD 8 undef)) fun x11'=>
 tyS (asI .i64 (cs2'.getD 9 undef)) fun x12'=>
 tyS (asI .i64 (cs2'.getD 10 undef)) fun x13'=>
 tyS (asI .i64 (cs2'.getD 11 undef)) fun x14'=>
 tyS (asI .i64 (cs2'.getD 12 undef)) fun x15'=>
 tyS (asI .i64 (cs2'.getD 13 undef)) fun x16'=>
 tyS (asI .i64 (cs2'.getD 14 undef)) fun x17'=>
 tyS (asI .i64 (cs2'.getD 15 undef)) fun x18'=>
 tyS (asI .i64 (cs2'.getD 16 undef)) fun x19'=>
 tyS (asB (cs2'.getD 17 undef)) fun b20'=>
 tyS (asI .i64 (cs2'.getD 18 undef)) fun x21'=>
 tyS (asI .i64 (cs2'.getD 19 undef)) fun x22'=>
 tyS (asI .i64 (cs2'.getD 20 undef)) fun x23'=>
 tyS (asI .i64 (cs2'.getD 21 undef)) fun x24'=>
 tyS (asI .i64 (cs2'.getD 22 undef)) fun x25'=>
 tyS (asB (cs2'.getD 23 undef)) fun b26'=>
 tyS (asI .i64 (cs2'.getD 24 undef)) fun x27'=>
 tyS (asI .i64 (cs2'.getD 25 undef)) fun x28'=>
 tyS (asS (cs2'.getD 26 undef)) fun s29'=>
 tyS (asB (cs2'.getD 27 undef)) fun b30'=>
 tyS (asB (cs2'.getD 28 undef)) fun b31'=>
 tyS (asB (cs2'.getD 29 undef)) fun b32'=>
 stP (some 30) #[.bool b3',.int .i64 x4',.bool b5',.bool b6',.int .i64 x7',.int .i64 x8',.int .i64 x9',.int .i64 x10',.int .i64 x11',.int .i64 x12',.int .i64 x13',.int .i64 x14',.int .i64 x15',.int .i64 x16',.int .i64 x17',.int .i64 x18',.int .i64 x19',.bool b20',.int .i64 x21',.int .i64 x22',.int .i64 x23',.int .i64 x24',.int .i64 x25',.bool b26',.int .i64 x27',.int .i64 x28',.slice s29'.1 (s29'.2.1) (s29'.2.2),.bool b30',.bool b31',.bool b32'] (N1'.new (.cells #[.bool false,.int .i64 0,.bool false,.bool false,.int .i64 0,.int .i64 0,.int .i64 0,.int .i64 0,.int .i64 0,.int .i64 0,.int .i64 0,.int .i64 0,.int .i64 0,.int .i64 0,.int .i64 0,.int .i64 0,.int .i64 0,.bool false,.int .i64 0,.int .i64 0,.int .i64 0,.int .i64 0,.int .i64 0,.bool false,.int .i64 0,.int .i64 0,.slice none 0 0,.bool false,.bool false,.bool false] 41)) (2*N1'.nb.size) 0 fun M33'=>
 stP (some 30) #[.bool false,.int .i64 0,.bool false,.bool false,.int .i64 3,.int .i64 1,.int .i64 2,.int .i64 7,.int .i64 0,.int .i64 9,.int .i64 0,.int .i64 0,.int .i64 0,.int .i64 0,.int .i64 0,.int .i64 0,.int .i64 0,.bool false,.int .i64 0,.int .i64 0,.int .i64 0,.int .i64 0,.int .i64 0,.bool true,.int .i64 3,.int .i64 0,.slice (some ⟨2*M33'.nb.size,0,none⟩) 1 1,.bool true,.bool false,.bool true] ((M33'.new (.cells #[.int .i64 15,.int .i64 3,.int .i64 1,.int .i64 0] 96)).new (.cells #[.bool false,.int .i64 0,.bool false,.bool false,.int .i64 0,.int .i64 0,.int .i64 0,.int .i64 0,.int .i64 0,.int .i64 0,.int .i64 0,.int .i64 0,.int .i64 0,.int .i64 0,.int .i64 0,.int .i64 0,.int .i64 0,.bool false,.int .i64 0,.int .i64 0,.int .i64 0,.int .i64 0,.int .i64 0,.bool false,.int .i64 0,.int .i64 0,.slice none 0 0,.bool false,.bool false,.bool false] 41)) (2*(M33'.new (.cells #[.int .i64 15,.int .i64 3,.int .i64 1,.int .i64 0] 96)).nb.size) 0 fun M34'=>
 cnd (x0 == 0) (
 ptS (M34'.put (2*N1'.nb.size) (0+15) (.int .i64 1)) fun M35'=>
 A42_1 x0 (some ⟨2*M.nb.size,0,none⟩) (some ⟨2*N1'.nb.size,0,none⟩) (some ⟨2*(M33'.new (.cells #[.int .i64 15,.int .i64 3,.int .i64 1,.int .i64 0] 96)).nb.size,0,none⟩) M35' Q) (
 cnd (x0 == 1) (
 ptS (M34'.put (2*N1'.nb.size) (0+8) (.int .i64 0)) fun M36'=>
 A42_1 x0 (some ⟨2*M.nb.size,0,none⟩) (some ⟨2*N1'.nb.size,0,none⟩) (some ⟨2*(M33'.new (.cells #[.int .i64 15,.int .i64 3,.int .i64 1,.int .i64 0] 96)).nb.size,0,none⟩) M36' Q) (
 cnd (x0 == 2) (
 ptS (M34'.put (2*N1'.nb.size) (0+22) (.int .i64 1)) fun M37'=>
 A42_1 x0 (some ⟨2*M.nb.size,0,none⟩) (some ⟨2*N1'.nb.size,0,none⟩) (some ⟨2*(M33'.new (.cells #[.int .i64 15,.int .i64 3,.int .i64 1,.int .i64 0] 96)).nb.size,0,none⟩) M37' Q) (
 cnd (x0 == 3) (
 ptS (M34'.put (2*N1'.nb.size) (0+9) (.int .i64 9)) fun M38'=>
 ptS (M38'.put (2*N1'.nb.size) (0+22) (.int .i64 1)) fun M39'=>
 A42_1 x0 (some ⟨2*M.nb.size,0,none⟩) (some ⟨2*N1'.nb.size,0,none⟩) (some ⟨2*(M33'.new (.cells #[.int .i64 15,.int .i64 3,.int .i64 1,.int .i64 0] 96)).nb.size,0,none⟩) M39' Q) (
 cnd (x0 == 4) (
 ptS (M34'.put (2*N1'.nb.size) (0+4) (.int .i64 256)) fun M40'=>
 A42_1 x0 (some ⟨2*M.nb.size,0,none⟩) (some ⟨2*N1'.nb.size,0,none⟩) (some ⟨2*(M33'.new (.cells #[.int .i64 15,.int .i64 3,.int .i64 1,.int .i64 0] 96)).nb.size,0,none⟩) M40' Q) (
 cnd (x0 == 5) (
 ixS (idxA (some ⟨(2*N1'.nb.size),0+5,none⟩) 3 1 2) fun a41'=>
 ptS (M34'.put a41'.block a41'.off (.int .i64 1)) fun M42'=>
 A42_1 x0 (some ⟨2*M.nb.size,0,none⟩) (some ⟨2*N1'.nb.size,0,none⟩) (some ⟨2*(M33'.new (.cells #[.int .i64 15,.int .i64 3,.int .i64 1,.int .i64 0] 96)).nb.size,0,none⟩) M42' Q) (
 cnd (x0 == 6) (
 ptS (M34'.put (2*N1'.nb.size) (0+1) (.int .i64 1)) fun M43'=>
 A42_1 x0 (some ⟨2*M.nb.size,0,none⟩) (some ⟨2*N1'.nb.size,0,none⟩) (some ⟨2*(M33'.new (.cells #[.int .i64 15,.int .i64 3,.int .i64 1,.int .i64 0] 96)).nb.size,0,none⟩) M43' Q) (
 cnd (x0 == 7) (
 ptS (M34'.put (2*N1'.nb.size) (0+9) (.int .i64 (-1))) fun M44'=>
 A42_1 x0 (some ⟨2*M.nb.size,0,none⟩) (some ⟨2*N1'.nb.size,0,none⟩) (some ⟨2*(M33'.new (.cells #[.int .i64 15,.int .i64 3,.int .i64 1,.int .i64 0] 96)).nb.size,0,none⟩) M44' Q) (
 cnd (x0 == 8) (
 ptS (M34'.put (2*N1'.nb.size) (0+9) (.int .i64 256)) fun M45'=>
 A42_1 x0 (some ⟨2*M.nb.size,0,none⟩) (some ⟨2*N1'.nb.size,0,none⟩) (some ⟨2*(M33'.new (.cells #[.int .i64 15,.int .i64 3,.int .i64 1,.int .i64 0] 96)).nb.size,0,none⟩) M45' Q) (
 cnd (x0 == 9) (
 ixS (idxA (some ⟨(2*N1'.nb.size),0+10,none⟩) 5 1 4) fun a46'=>
 ptS (M34'.put a46'.block a46'.off (.int .i64 (-31))) fun M47'=>
 A42_1 x0 (some ⟨2*M.nb.size,0,none⟩) (some ⟨2*N1'.nb.size,0,none⟩) (some ⟨2*(M33'.new (.cells #[.int .i64 15,.int .i64 3,.int .i64 1,.int .i64 0] 96)).nb.size,0,none⟩) M47' Q) (
 cnd (x0 == 10) (
 ixS (idxA (some ⟨(2*N1'.nb.size),0+10,none⟩) 5 1 0) fun a48'=>
 ptS (M34'.put a48'.block a48'.off (.int .i64 32)) fun M49'=>
 A42_1 x0 (some ⟨2*M.nb.size,0,none⟩) (some ⟨2*N1'.nb.size,0,none⟩) (some ⟨2*(M33'.new (.cells #[.int .i64 15,.int .i64 3,.int .i64 1,.int .i64 0] 96)).nb.size,0,none⟩) M49' Q) (
 cnd (x0 == 11) (
 ptS (M34'.put (2*N1'.nb.size) (0+16) (.int .i64 3)) fun M50'=>
 A42_1 x0 (some ⟨2*M.nb.size,0,none⟩) (some ⟨2*N1'.nb.size,0,none⟩) (some ⟨2*(M33'.new (.cells #[.int .i64 15,.int .i64 3,.int .i64 1,.int .i64 0] 96)).nb.size,0,none⟩) M50' Q) (
 cnd (x0 == 12) (
 ptS (M34'.put (2*N1'.nb.size) 0 (.bool true)) fun M51'=>
 A42_1 x0 (some ⟨2*M.nb.size,0,none⟩) (some ⟨2*N1'.nb.size,0,none⟩) (some ⟨2*(M33'.new (.cells #[.int .i64 15,.int .i64 3,.int .i64 1,.int .i64 0] 96)).nb.size,0,none⟩) M51' Q) (
 cnd (x0 == 13) (
 stP (some 30) #[.bool true,.int .i64 7,.bool false,.bool false,.int .i64 0,.int .i64 0,.int .i64 0,.int .i64 0,.int .i64 0,.int .i64 0,.int .i64 0,.int .i64 0,.int .i64 0,.int .i64 0,.int .i64 0,.int .i64 0,.int .i64 0,.bool false,.int .i64 0,.int .i64 0,.int .i64 0,.int .i64 0,.int .i64 0,.bool false,.int .i64 0,.int .i64 0,.slice none 0 0,.bool false,.bool false,.bool false] M34' (2*N1'.nb.size) 0 fun M52'=>
 A42_1 x0 (some ⟨2*M.nb.size,0,none⟩) (some ⟨2*N1'.nb.size,0,none⟩) (some ⟨2*(M33'.new (.cells #[.int .i64 15,.int .i64 3,.int .i64 1,.int .i64 0] 96)).nb.size,0,none⟩) M52' Q) (
 cnd (x0 == 14) (
 stP (some 30) #[.bool true,.int .i64 8,.bool false,.bool false,.int .i64 0,.int .i64 0,.int .i64 0,.int .i64 0,.int .i64 0,.int .i64 0,.int .i64 0,.int .i64 0,.int .i64 0,.int .i64 0,.int .i64 0,.int .i64 0,.int .i64 0,.bool false,.int .i64 0,.int .i64 0,.int .i64 0,.int .i64 0,.int .i64 0,.bool false,.int .i64 0,.int .i64 0,.slice none 0 0,.bool false,.bool false,.bool false] M34' (2*N1'.nb.size) 0 fun M53'=>
 A42_1 x0 (some ⟨2*M.nb.size,0,none⟩) (some ⟨2*N1'.nb.size,0,none⟩) (some ⟨2*(M33'.new (.cells #[.int .i64 15,.int .i64 3,.int .i64 1,.int .i64 0] 96)).nb.size,0,none⟩) M53' Q) (
 cnd (x0 == 15) (
 ixS (idxA (some ⟨(2*N1'.nb.size),0+27,none⟩) 3 1 0) fun a54'=>
 ptS (M34'.put a54'.block a54'.off (.bool true)) fun M55'=>
 A42_1 x0 (some ⟨2*M.nb.size,0,none⟩) (some ⟨2*N1'.nb.size,0,none⟩) (some ⟨2*(M33'.new (.cells #[.int .i64 15,.int .i64 3,.int .i64 1,.int .i64 0] 96)).nb.size,0,none⟩) M55' Q) (
 cnd (x0 == 16) (
 ptS ((M34'.new (.cells #[.int .i64 0,.int .i64 0,.int .i64 0,.int .i64 0] 96)).put (2*N1'.nb.size) (0+26) (.slice (some ⟨2*M34'.nb.size,0,none⟩) 1 1)) fun M56'=>
 A42_1 x0 (some ⟨2*M.nb.size,0,none⟩) (some ⟨2*N1'.nb.size,0,none⟩) (some ⟨2*(M33'.new (.cells #[.int .i64 15,.int .i64 3,.int .i64 1,.int .i64 0] 96)).nb.size,0,none⟩) M56' Q) (
 cnd (x0 == 17) (
 ptS (M34'.put (2*N1'.nb.size) (0+15) (.int .i64 2)) fun M57'=>
 ptS (M57'.put (2*N1'.nb.size) (0+16) (.int .i64 2)) fun M58'=>
 A42_1 x0 (some ⟨2*M.nb.size,0,none⟩) (some ⟨2*N1'.nb.size,0,none⟩) (some ⟨2*(M33'.new (.cells #[.int .i64 15,.int .i64 3,.int .i64 1,.int .i64 0] 96)).nb.size,0,none⟩) M58' Q) (
 cnd (x0 == 18) (
 ptS (M34'.put (2*N1'.nb.size) (0+15) (.int .i64 (-1))) fun M59'=>
 A42_1 x0 (some ⟨2*M.nb.size,0,none⟩) (some ⟨2*N1'.nb.size,0,none⟩) (some ⟨2*(M33'.new (.cells #[.int .i64 15,.int .i64 3,.int .i64 1,.int .i64 0] 96)).nb.size,0,none⟩) M59' Q) (
 cnd (x0 == 19) (
 stP (some 30) #[.bool true,.int .i64 0,.bool false,.bool true,.int .i64 0,.int .i64 0,.int .i64 0,.int .i64 0,.int .i64 0,.int .i64 0,.int .i64 0,.int .i64 0,.int .i64 0,.int .i64 0,.int .i64 0,.int .i64 0,.int .i64 0,.bool false,.int .i64 0,.int .i64 0,.int .i64 0,.int .i64 0,.int .i64 0,.bool false,.int .i64 0,.int .i64 0,.slice none 0 0,.bool false,.bool false,.bool false] M34' (2*N1'.nb.size) 0 fun M60'=>
 A42_1 x0 (some ⟨2*M.nb.size,0,none⟩) (some ⟨2*N1'.nb.size,0,none⟩) (some ⟨2*(M33'.new (.cells #[.int .i64 15,.int .i64 3,.int .i64 1,.int .i64 0] 96)).nb.size,0,none⟩) M60' Q) (
 cnd (x0 == 21) (
 ptS (M34'.put (2*(M33'.new (.cells #[.int .i64 15,.int .i64 3,.int .i64 1,.int .i64 0] 96)).nb.size) (0+24) (.int .i64 7)) fun M61'=>
 A42_1 x0 (some ⟨2*M.nb.size,0,none⟩) (some ⟨2*N1'.nb.size,0,none⟩) (some ⟨2*(M33'.new (.cells #[.int .i64 15,.int .i64 3,.int .i64 1,.int .i64 0] 96)).nb.size,0,none⟩) M61' Q) (
 cnd (x0 == 22) (
 ptS (M34'.put (2*(M33'.new (.cells #[.int .i64 15,.int .i64 3,.int .i64 1,.int .i64 0] 96)).nb.size) (0+24) (.int .i64 2)) fun M62'=>
 A42_1 x0 (some ⟨2*M.nb.size,0,none⟩) (some ⟨2*N1'.nb.size,0,none⟩) (some ⟨2*(M33'.new (.cells #[.int .i64 15,.int .i64 3,.int .i64 1,.int .i64 0] 96)).nb.size,0,none⟩) M62' Q) (
 cnd (x0 == 23) (
 ptS (M34'.put (2*(M33'.new (.cells #[.int .i64 15,.int .i64 3,.int .i64 1,.int .i64 0] 96)).nb.size) (0+25) (.int .i64 1)) fun M63'=>
 A42_1 x0 (some ⟨2*M.nb.size,0,none⟩) (some ⟨2*N1'.nb.size,0,none⟩) (some ⟨2*(M33'.new (.cells #[.int .i64 15,.int .i64 3,.int .i64 1,.int .i64 0] 96)).nb.size,0,none⟩) M63' Q) (
 cnd (x0 == 24) (
 onS (M34'.slAt (2*(M33'.new (.cells #[.int .i64 15,.int .i64 3,.int .i64 1,.int .i64 0] 96)).nb.size) (0+26)) fun s64'=>
 ixS (idxA s64'.1 (s64'.2.1) 4 0) fun a65'=>
 ptS (M34'.put a65'.block (a65'.off+1) (.int .i64 4)) fun M66'=>
 A42_1 x0 (some ⟨2*M.nb.size,0,none⟩) (some ⟨2*N1'.nb.size,0,none⟩) (some ⟨2*(M33'.new (.cells #[.int .i64 15,.int .i64 3,.int .i64 1,.int .i64 0] 96)).nb.size,0,none⟩) M66' Q) (
 cnd (x0 == 25) (
 onS (M34'.slAt (2*(M33'.new (.cells #[.int .i64 15,.int .i64 3,.int .i64 1,.int .i64 0] 96)).nb.size) (0+26)) fun s67'=>
 ixS (idxA s67'.1 (s67'.2.1) 4 0) fun a68'=>
 ptS (M34'.put a68'.block (a68'.off+2) (.int .i64 16)) fun M69'=>
 A42_1 x0 (some ⟨2*M.nb.size,0,none⟩) (some ⟨2*N1'.nb.size,0,none⟩) (some ⟨2*(M33'.new (.cells #[.int .i64 15,.int .i64 3,.int .i64 1,.int .i64 0] 96)).nb.size,0,none⟩) M69' Q) (
 cnd (x0 == 26) (
 stP (some 4) #[.int .i64 63,.int .i64 0,.int .i64 1,.int .i64 2] M34' (2*(M33'.new (.cells #[.int .i64 15,.int .i64 3,.int .i64 1,.int .i64 0] 96)).nb.size) (0+18) fun M70'=>
 A42_1 x0 (some ⟨2*M.nb.size,0,none⟩) (some ⟨2*N1'.nb.size,0,none⟩) (some ⟨2*(M33'.new (.cells #[.int .i64 15,.int .i64 3,.int .i64 1,.int .i64 0] 96)).nb.size,0,none⟩) M70' Q) (
 cnd (x0 == 27) (
 ixS (idxA (some ⟨(2*(M33'.new (.cells #[.int .i64 15,.int .i64 3,.int .i64 1,.int .i64 0] 96)).nb.size),0+18,none⟩) 4 1 3) fun a71'=>
 ptS (M34'.put a71'.block a71'.off (.int .i64 64)) fun M72'=>
 A42_1 x0 (some ⟨2*M.nb.size,0,none⟩) (some ⟨2*N1'.nb.size,0,none⟩) (some ⟨2*(M33'.new (.cells #[.int .i64 15,.int .i64 3,.int .i64 1,.int .i64 0] 96)).nb.size,0,none⟩) M72' Q) (
 cnd (x0 == 28) (
 ptS (M34'.put (2*(M33'.new (.cells #[.int .i64 15,.int .i64 3,.int .i64 1,.int .i64 0] 96)).nb.size) (0+22) (.int .i64 8)) fun M73'=>
 A42_1 x0 (some ⟨2*M.nb.size,0,none⟩) (some ⟨2*N1'.nb.size,0,none⟩) (some ⟨2*(M33'.new (.cells #[.int .i64 15,.int .i64 3,.int .i64 1,.int .i64 0] 96)).nb.size,0,none⟩) M73' Q) (
 cnd (x0 == 29) (
 ptS (M34'.put (2*(M33'.new (.cells #[.int .i64 15,.int .i64 3,.int .i64 1,.int .i64 0] 96)).nb.size) (0+23) (.bool false)) fun M74'=>
 A42_1 x0 (some ⟨2*M.nb.size,0,none⟩) (some ⟨2*N1'.nb.size,0,none⟩) (some ⟨2*(M33'.new (.cells #[.int .i64 15,.int .i64 3,.int .i64 1,.int .i64 0] 96)).nb.size,0,none⟩) M74' Q) (
 cnd (x0 == 30) (
 ixS (idxA (some ⟨(2*(M33'.new (.cells #[.int .i64 15,.int .i64 3,.int .i64 1,.int .i64 0] 96)).nb.size),0+5,none⟩) 3 1 0) fun a75'=>
 ptS (M34'.put a75'.block a75'.off (.int .i64 8)) fun M76'=>
 A42_1 x0 (some ⟨2*M.nb.size,0,none⟩) (some ⟨2*N1'.nb.size,0,none⟩) (some ⟨2*(M33'.new (.cells #[.int .i64 15,.int .i64 3,.int .i64 1,.int .i64 0] 96)).nb.size,0,none⟩) M76' Q) (
 cnd (x0 == 31) (
 ptS (M34'.put (2*(M33'.new (.cells #[.int .i64 15,.int .i64 3,.int .i64 1,.int .i64 0] 96)).nb.size) (0+8) (.int .i64 8)) fun M77'=>
 A42_1 x0 (some ⟨2*M.nb.size,0,none⟩) (some ⟨2*N1'.nb.size,0,none⟩) (some ⟨2*(M33'.new (.cells #[.int .i64 15,.int .i64 3,.int .i64 1,.int .i64 0] 96)).nb.size,0,none⟩) M77' Q) (
 cnd (x0 == 32) (
 ptS (M34'.put (2*(M33'.new (.cells #[.int .i64 15,.int .i64 3,.int .i64 1,.int .i64 0] 96)).nb.size) (0+8) (.int .i64 (-2))) fun M78'=>
 A42_1 x0 (some ⟨2*M.nb.size,0,none⟩) (some ⟨2*N1'.nb.size,0,none⟩) (some ⟨2*(M33'.new (.cells #[.int .i64 15,.int .i64 3,.int .i64 1,.int .i64 0] 96)).nb.size,0,none⟩) M78' Q) (
 cnd (x0 == 33) (
 ptS (M34'.put (2*(M33'.new (.cells #[.int .i64 15,.int .i64 3,.int .i64 1,.int .i64 0] 96)).nb.size) (0+8) (.int .i64 (-1))) fun M79'=>
 A42_1 x0 (some ⟨2*M.nb.size,0,none⟩) (some ⟨2*N1'.nb.size,0,none⟩) (some ⟨2*(M33'.new (.cells #[.int .i64 15,.int .i64 3,.int .i64 1,.int .i64 0] 96)).nb.size,0,none⟩) M79' Q) (
 cnd (x0 == 34) (
 meS (makeP Try.prog 38 (.int .i64 8) (.int .i64 8) M34') fun r80'=>
 tyS (asS r80'.1) fun s81'=>
 cnd (decide (some (2*(M33'.new (.cells #[.int .i64 15,.int .i64 3,.int .i64 1,.int .i64 0] 96)).nb.size)=some (2*M34'.nb.size))) (
 False) (
 ptS (r80'.2.put (2*(M33'.new (.cells #[.int .i64 15,.int .i64 3,.int .i64 1,.int .i64 0] 96)).nb.size) (0+25) (.int .i64 3)) fun M82'=>
 ptS (M82'.put (2*(M33'.new (.cells #[.int .i64 15,.int .i64 3,.int .i64 1,.int .i64 0] 96)).nb.size) (0+26) (.slice s81'.1 (s81'.2.1) (s81'.2.2))) fun M83'=>
 A42_1 x0 (some ⟨2*M.nb.size,0,none⟩) (some ⟨2*N1'.nb.size,0,none⟩) (some ⟨2*(M33'.new (.cells #[.int .i64 15,.int .i64 3,.int .i64 1,.int .i64 0] 96)).nb.size,0,none⟩) M83' Q)) (
 cnd (x0 == 35) (
 meS (makeP Try.prog 38 (.int .i64 16) (.int .i64 16) M34') fun r84'=>
 tyS (asS r84'.1) fun s85'=>
 cnd (decide (some (2*(M33'.new (.cells #[.int .i64 15,.int .i64 3,.int .i64 1,.int .i64 0] 96)).nb.size)=some (2*M34'.nb.size))) (
 False) (
 ptS (r84'.2.put (2*(M33'.new (.cells #[.int .i64 15,.int .i64 3,.int .i64 1,.int .i64 0] 96)).nb.size) (0+25) (.int .i64 4)) fun M86'=>
 ptS (M86'.put (2*(M33'.new (.cells #[.int .i64 15,.int .i64 3,.int .i64 1,.int .i64 0] 96)).nb.size) (0+26) (.slice s85'.1 (s85'.2.1) (s85'.2.2))) fun M87'=>
 A42_1 x0 (some ⟨2*M.nb.size,0,none⟩) (some ⟨2*N1'.nb.size,0,none⟩) (some ⟨2*(M33'.new (.cells #[.int .i64 15,.int .i64 3,.int .i64 1,.int .i64 0] 96)).nb.size,0,none⟩) M87' Q)) (
 cnd (x0 == 36) (
 ptS (M34'.put (2*(M33'.new (.cells #[.int .i64 15,.int .i64 3,.int .i64 1,.int .i64 0] 96)).nb.size) (0+17) (.bool true)) fun M88'=>
 ptS (M88'.put (2*(M33'.new (.cells #[.int .i64 15,.int .i64 3,.int .i64 1,.int .i64 0] 96)).nb.size) (0+2) (.bool true)) fun M89'=>
 A42_1 x0 (some ⟨2*M.nb.size,0,none⟩) (some ⟨2*N1'.nb.size,0,none⟩) (some ⟨2*(M33'.new (.cells #[.int .i64 15,.int .i64 3,.int .i64 1,.int .i64 0] 96)).nb.size,0,none⟩) M89' Q) (
 A42_1 x0 (some ⟨2*M.nb.size,0,none⟩) (some ⟨2*N1'.nb.size,0,none⟩) (some ⟨2*(M33'.new (.cells #[.int .i64 15,.int .i64 3,.int .i64 1,.int .i64 0] 96)).nb.size,0,none⟩) M34' Q))))))))))))))))))))))))))))))))))))):
 Cn Try.prog 42 #[.int .i64 x0] M Q:=
 Cn.mk (cuts:=K42) (sp:=Z42) 900 b42 rfl rfl H fun G=>by kernel_rfl
theorem w42_1 {x0:Int} {x2 x3 x4:Option Addr} {M:Mem} {Q:Value→Mem→Prop} (H:
 adS x3 fun a90'=>
 onS (M.boolAt a90'.block a90'.off) fun b91'=>
 onS (M.intAt .i64 a90'.block (a90'.off+1)) fun x92'=>
 onS (M.boolAt a90'.block (a90'.off+2)) fun b93'=>
 onS (M.boolAt a90'.block (a90'.off+3)) fun b94'=>
 onS (M.intAt .i64 a90'.block (a90'.off+4)) fun x95'=>
 onS (M.intAt .i64 a90'.block (a90'.off+5)) fun x96'=>
 onS (M.intAt .i64 a90'.block (a90'.off+6)) fun x97'=>
 onS (M.intAt .i64 a90'.block (a90'.off+7)) fun x98'=>
 onS (M.intAt .i64 a90'.block (a90'.off+8)) fun x99'=>
 onS (M.intAt .i64 a90'.block (a90'.off+9)) fun x100'=>
 onS (M.intAt .i64 a90'.block (a90'.off+10)) fun x101'=>
 onS (M.intAt .i64 a90'.block (a90'.off+11)) fun x102'=>
 onS (M.intAt .i64 a90'.block (a90'.off+12)) fun x103'=>
 onS (M.intAt .i64 a90'.block (a90'.off+13)) fun x104'=>
 onS (M.intAt .i64 a90'.block (a90'.off+14)) fun x105'=>
 onS (M.intAt .i64 a90'.block (a90'.off+15)) fun x106'=>
 onS (M.intAt .i64 a90'.block (a90'.off+16)) fun x107'=>
 onS (M.boolAt a90'.block (a90'.off+17)) fun b108'=>
 onS (M.intAt .i64 a90'.block (a90'.off+18)) fun x109'=>
 onS (M.intAt .i64 a90'.block (a90'.off+19)) fun x110'=>
 onS (M.intAt .i64 a90'.block (a90'.off+20)) fun x111'=>
 onS (M.intAt .i64 a90'.block (a90'.off+21)) fun x112'=>
 onS (M.intAt .i64 a90'.block (a90'.off+22)) fun x113'=>
 onS (M.boolAt a90'.block (a90'.off+23)) fun b114'=>
 onS (M.intAt .i64 a90'.block (a90'.off+24)) fun x115'=>
 onS (M.intAt .i64 a90'.block (a90'.off+25)) fun x116'=>
 onS (M.slAt a90'.block (a90'.off+26)) fun s117'=>
 onS (M.boolAt a90'.block (a90'.off+27)) fun b118'=>
 onS (M.boolAt a90'.block (a90'.off+28)) fun b119'=>
 onS (M.boolAt a90'.block (a90'.off+29)) fun b120'=>
 adS x4 fun a121'=>
 onS (M.boolAt a121'.block a121'.off) fun b122'=>
 onS (M.intAt .i64 a121'.block (a121'.off+1)) fun x123'=>
 onS (M.boolAt a121'.block (a121'.off+2)) fun b124'=>
 onS (M.boolAt a121'.block (a121'.off+3)) fun b125'=>
 onS (M.intAt .i64 a121'.block (a121'.off+4)) fun x126'=>
 onS (M.intAt .i64 a121'.block (a121'.off+5)) fun x127'=>
 onS (M.intAt .i64 a121'.block (a121'.off+6)) fun x128'=>
 onS (M.intAt .i64 a121'.block (a121'.off+7)) fun x129'=>
 onS (M.intAt .i64 a121'.block (a121'.off+8)) fun x130'=>
 onS (M.intAt .i64 a121'.block (a121'.off+9)) fun x131'=>
 onS (M.intAt .i64 a121'.block (a121'.off+10)) fun x132'=>
 onS (M.intAt .i64 a121'.block (a121'.off+11)) fun x133'=>
 onS (M.intAt .i64 a121'.block (a121'.off+12)) fun x134'=>
 onS (M.intAt .i64 a121'.block (a121'.off+13)) fun x135'=>
 onS (M.intAt .i64 a121'.block (a121'.off+14)) fun x136'=>
 onS (M.intAt .i64 a121'.block (a121'.off+15)) fun x137'=>
 onS (M.intAt .i64 a121'.block (a121'.off+16)) fun x138'=>
 onS (M.boolAt a121'.block (a121'.off+17)) fun b139'=>
 onS (M.intAt .i64 a121'.block (a121'.off+18)) fun x140'=>
 onS (M.intAt .i64 a121'.block (a121'.off+19)) fun x141'=>
 onS (M.intAt .i64 a121'.block (a121'.off+20)) fun x142'=>
 onS (M.intAt .i64 a121'.block (a121'.off+21)) fun x143'=>
 onS (M.intAt .i64 a121'.block (a121'.off+22)) fun x144'=>
 onS (M.boolAt a121'.block (a121'.off+23)) fun b145'=>
 onS (M.intAt .i64 a121'.block (a121'.off+24)) fun x146'=>
 onS (M.intAt .i64 a121'.block (a121'.off+25)) fun x147'=>
 onS (M.slAt a121'.block (a121'.off+26)) fun s148'=>
 onS (M.boolAt a121'.block (a121'.off+27)) fun b149'=>
 onS (M.boolAt a121'.block (a121'.off+28)) fun b150'=>
 onS (M.boolAt a121'.block (a121'.off+29)) fun b151'=>
 ixS (idxA (some ⟨2*M.nb.size,0,none⟩) 2 30 (if 1<IntKind.i64.wrap (x0.tdiv 20) then 1 else IntKind.i64.wrap (x0.tdiv 20))) fun a152'=>
 onS ((M.new (.cells #[.bool b91',.int .i64 x92',.bool b93',.bool b94',.int .i64 x95',.int .i64 x96',.int .i64 x97',.int .i64 x98',.int .i64 x99',.int .i64 x100',.int .i64 x101',.int .i64 x102',.int .i64 x103',.int .i64 x104',.int .i64 x105',.int .i64 x106',.int .i64 x107',.bool b108',.int .i64 x109',.int .i64 x110',.int .i64 x111',.int .i64 x112',.int .i64 x113',.bool b114',.int .i64 x115',.int .i64 x116',.slice s117'.1 (s117'.2.1) (s117'.2.2),.bool b118',.bool b119',.bool b120',.bool b122',.int .i64 x123',.bool b124',.bool b125',.int .i64 x126',.int .i64 x127',.int .i64 x128',.int .i64 x129',.int .i64 x130',.int .i64 x131',.int .i64 x132',.int .i64 x133',.int .i64 x134',.int .i64 x135',.int .i64 x136',.int .i64 x137',.int .i64 x138',.bool b139',.int .i64 x140',.int .i64 x141',.int .i64 x142',.int .i64 x143',.int .i64 x144',.bool b145',.int .i64 x146',.int .i64 x147',.slice s148'.1 (s148'.2.1) (s148'.2.2),.bool b149',.bool b150',.bool b151'] 41)).boolAt a152'.block a152'.off) fun b153'=>
 onS ((M.new (.cells #[.bool b91',.int .i64 x92',.bool b93',.bool b94',.int .i64 x95',.int .i64 x96',.int .i64 x97',.int .i64 x98',.int .i64 x99',.int .i64 x100',.int .i64 x101',.int .i64 x102',.int .i64 x103',.int .i64 x104',.int .i64 x105',.int .i64 x106',.int .i64 x107',.bool b108',.int .i64 x109',.int .i64 x110',.int .i64 x111',.int .i64 x112',.int .i64 x113',.bool b114',.int .i64 x115',.int .i64 x116',.slice s117'.1 (s117'.2.1) (s117'.2.2),.bool b118',.bool b119',.bool b120',.bool b122',.int .i64 x123',.bool b124',.bool b125',.int .i64 x126',.int .i64 x127',.int .i64 x128',.int .i64 x129',.int .i64 x130',.int .i64 x131',.int .i64 x132',.int .i64 x133',.int .i64 x134',.int .i64 x135',.int .i64 x136',.int .i64 x137',.int .i64 x138',.bool b139',.int .i64 x140',.int .i64 x141',.int .i64 x142',.int .i64 x143',.int .i64 x144',.bool b145',.int .i64 x146',.int .i64 x147',.slice s148'.1 (s148'.2.1) (s148'.2.2),.bool b149',.bool b150',.bool b151'] 41)).intAt .i64 a152'.block (a152'.off+1)) fun x154'=>
 onS ((M.new (.cells #[.bool b91',.int .i64 x92',.bool b93',.bool b94',.int .i64 x95',.int .i64 x96',.int .i64 x97',.int .i64 x98',.int .i64 x99',.int .i64 x100',.int .i64 x101',.int .i64 x102',.int .i64 x103',.int .i64 x104',.int .i64 x105',.int .i64 x106',.int .i64 x107',.bool b108',.int .i64 x109',.int .i64 x110',.int .i64 x111',.int .i64 x112',.int .i64 x113',.bool b114',.int .i64 x115',.int .i64 x116',.slice s117'.1 (s117'.2.1) (s117'.2.2),.bool b118',.bool b119',.bool b120',.bool b122',.int .i64 x123',.bool b124',.bool b125',.int .i64 x126',.int .i64 x127',.int .i64 x128',.int .i64 x129',.int .i64 x130',.int .i64 x131',.int .i64 x132',.int .i64 x133',.int .i64 x134',.int .i64 x135',.int .i64 x136',.int .i64 x137',.int .i64 x138',.bool b139',.int .i64 x140',.int .i64 x141',.int .i64 x142',.int .i64 x143',.int .i64 x144',.bool b145',.int .i64 x146',.int .i64 x147',.slice s148'.1 (s148'.2.1) (s148'.2.2),.bool b149',.bool b150',.bool b151'] 41)).boolAt a152'.block (a152'.off+2)) fun b155'=>
 onS ((M.new (.cells #[.bool b91',.int .i64 x92',.bool b93',.bool b94',.int .i64 x95',.int .i64 x96',.int .i64 x97',.int .i64 x98',.int .i64 x99',.int .i64 x100',.int .i64 x101',.int .i64 x102',.int .i64 x103',.int .i64 x104',.int .i64 x105',.int .i64 x106',.int .i64 x107',.bool b108',.int .i64 x109',.int .i64 x110',.int .i64 x111',.int .i64 x112',.int .i64 x113',.bool b114',.int .i64 x115',.int .i64 x116',.slice s117'.1 (s117'.2.1) (s117'.2.2),.bool b118',.bool b119',.bool b120',.bool b122',.int .i64 x123',.bool b124',.bool b125',.int .i64 x126',.int .i64 x127',.int .i64 x128',.int .i64 x129',.int .i64 x130',.int .i64 x131',.int .i64 x132',.int .i64 x133',.int .i64 x134',.int .i64 x135',.int .i64 x136',.int .i64 x137',.int .i64 x138',.bool b139',.int .i64 x140',.int .i64 x141',.int .i64 x142',.int .i64 x143',.int .i64 x144',.bool b145',.int .i64 x146',.int .i64 x147',.slice s148'.1 (s148'.2.1) (s148'.2.2),.bool b149',.bool b150',.bool b151'] 41)).boolAt a152'.block (a152'.off+3)) fun b156'=>
 onS ((M.new (.cells #[.bool b91',.int .i64 x92',.bool b93',.bool b94',.int .i64 x95',.int .i64 x96',.int .i64 x97',.int .i64 x98',.int .i64 x99',.int .i64 x100',.int .i64 x101',.int .i64 x102',.int .i64 x103',.int .i64 x104',.int .i64 x105',.int .i64 x106',.int .i64 x107',.bool b108',.int .i64 x109',.int .i64 x110',.int .i64 x111',.int .i64 x112',.int .i64 x113',.bool b114',.int .i64 x115',.int .i64 x116',.slice s117'.1 (s117'.2.1) (s117'.2.2),.bool b118',.bool b119',.bool b120',.bool b122',.int .i64 x123',.bool b124',.bool b125',.int .i64 x126',.int .i64 x127',.int .i64 x128',.int .i64 x129',.int .i64 x130',.int .i64 x131',.int .i64 x132',.int .i64 x133',.int .i64 x134',.int .i64 x135',.int .i64 x136',.int .i64 x137',.int .i64 x138',.bool b139',.int .i64 x140',.int .i64 x141',.int .i64 x142',.int .i64 x143',.int .i64 x144',.bool b145',.int .i64 x146',.int .i64 x147',.slice s148'.1 (s148'.2.1) (s148'.2.2),.bool b149',.bool b150',.bool b151'] 41)).intAt .i64 a152'.block (a152'.off+4)) fun x157'=>
 onS ((M.new (.cells #[.bool b91',.int .i64 x92',.bool b93',.bool b94',.int .i64 x95',.int .i64 x96',.int .i64 x97',.int .i64 x98',.int .i64 x99',.int .i64 x100',.int .i64 x101',.int .i64 x102',.int .i64 x103',.int .i64 x104',.int .i64 x105',.int .i64 x106',.int .i64 x107',.bool b108',.int .i64 x109',.int .i64 x110',.int .i64 x111',.int .i64 x112',.int .i64 x113',.bool b114',.int .i64 x115',.int .i64 x116',.slice s117'.1 (s117'.2.1) (s117'.2.2),.bool b118',.bool b119',.bool b120',.bool b122',.int .i64 x123',.bool b124',.bool b125',.int .i64 x126',.int .i64 x127',.int .i64 x128',.int .i64 x129',.int .i64 x130',.int .i64 x131',.int .i64 x132',.int .i64 x133',.int .i64 x134',.int .i64 x135',.int .i64 x136',.int .i64 x137',.int .i64 x138',.bool b139',.int .i64 x140',.int .i64 x141',.int .i64 x142',.int .i64 x143',.int .i64 x144',.bool b145',.int .i64 x146',.int .i64 x147',.slice s148'.1 (s148'.2.1) (s148'.2.2),.bool b149',.bool b150',.bool b151'] 41)).intAt .i64 a152'.block (a152'.off+5)) fun x158'=>
 onS ((M.new (.cells #[.bool b91',.int .i64 x92',.bool b93',.bool b94',.int .i64 x95',.int .i64 x96',.int .i64 x97',.int .i64 x98',.int .i64 x99',.int .i64 x100',.int .i64 x101',.int .i64 x102',.int .i64 x103',.int .i64 x104',.int .i64 x105',.int .i64 x106',.int .i64 x107',.bool b108',.int .i64 x109',.int .i64 x110',.int .i64 x111',.int .i64 x112',.int .i64 x113',.bool b114',.int .i64 x115',.int .i64 x116',.slice s117'.1 (s117'.2.1) (s117'.2.2),.bool b118',.bool b119',.bool b120',.bool b122',.int .i64 x123',.bool b124',.bool b125',.int .i64 x126',.int .i64 x127',.int .i64 x128',.int .i64 x129',.int .i64 x130',.int .i64 x131',.int .i64 x132',.int .i64 x133',.int .i64 x134',.int .i64 x135',.int .i64 x136',.int .i64 x137',.int .i64 x138',.bool b139',.int .i64 x140',.int .i64 x141',.int .i64 x142',.int .i64 x143',.int .i64 x144',.bool b145',.int .i64 x146',.int .i64 x147',.slice s148'.1 (s148'.2.1) (s148'.2.2),.bool b149',.bool b150',.bool b151'] 41)).intAt .i64 a152'.block (a152'.off+6)) fun x159'=>
 onS ((M.new (.cells #[.bool b91',.int .i64 x92',.bool b93',.bool b94',.int .i64 x95',.int .i64 x96',.int .i64 x97',.int .i64 x98',.int .i64 x99',.int .i64 x100',.int .i64 x101',.int .i64 x102',.int .i64 x103',.int .i64 x104',.int .i64 x105',.int .i64 x106',.int .i64 x107',.bool b108',.int .i64 x109',.int .i64 x110',.int .i64 x111',.int .i64 x112',.int .i64 x113',.bool b114',.int .i64 x115',.int .i64 x116',.slice s117'.1 (s117'.2.1) (s117'.2.2),.bool b118',.bool b119',.bool b120',.bool b122',.int .i64 x123',.bool b124',.bool b125',.int .i64 x126',.int .i64 x127',.int .i64 x128',.int .i64 x129',.int .i64 x130',.int .i64 x131',.int .i64 x132',.int .i64 x133',.int .i64 x134',.int .i64 x135',.int .i64 x136',.int .i64 x137',.int .i64 x138',.bool b139',.int .i64 x140',.int .i64 x141',.int .i64 x142',.int .i64 x143',.int .i64 x144',.bool b145',.int .i64 x146',.int .i64 x147',.slice s148'.1 (s148'.2.1) (s148'.2.2),.bool b149',.bool b150',.bool b151'] 41)).intAt .i64 a152'.block (a152'.off+7)) fun x160'=>
 onS ((M.new (.cells #[.bool b91',.int .i64 x92',.bool b93',.bool b94',.int .i64 x95',.int .i64 x96',.int .i64 x97',.int .i64 x98',.int .i64 x99',.int .i64 x100',.int .i64 x101',.int .i64 x102',.int .i64 x103',.int .i64 x104',.int .i64 x105',.int .i64 x106',.int .i64 x107',.bool b108',.int .i64 x109',.int .i64 x110',.int .i64 x111',.int .i64 x112',.int .i64 x113',.bool b114',.int .i64 x115',.int .i64 x116',.slice s117'.1 (s117'.2.1) (s117'.2.2),.bool b118',.bool b119',.bool b120',.bool b122',.int .i64 x123',.bool b124',.bool b125',.int .i64 x126',.int .i64 x127',.int .i64 x128',.int .i64 x129',.int .i64 x130',.int .i64 x131',.int .i64 x132',.int .i64 x133',.int .i64 x134',.int .i64 x135',.int .i64 x136',.int .i64 x137',.int .i64 x138',.bool b139',.int .i64 x140',.int .i64 x141',.int .i64 x142',.int .i64 x143',.int .i64 x144',.bool b145',.int .i64 x146',.int .i64 x147',.slice s148'.1 (s148'.2.1) (s148'.2.2),.bool b149',.bool b150',.bool b151'] 41)).intAt .i64 a152'.block (a152'.off+8)) fun x161'=>
 onS ((M.new (.cells #[.bool b91',.int .i64 x92',.bool b93',.bool b94',.int .i64 x95',.int .i64 x96',.int .i64 x97',.int .i64 x98',.int .i64 x99',.int .i64 x100',.int .i64 x101',.int .i64 x102',.int .i64 x103',.int .i64 x104',.int .i64 x105',.int .i64 x106',.int .i64 x107',.bool b108',.int .i64 x109',.int .i64 x110',.int .i64 x111',.int .i64 x112',.int .i64 x113',.bool b114',.int .i64 x115',.int .i64 x116',.slice s117'.1 (s117'.2.1) (s117'.2.2),.bool b118',.bool b119',.bool b120',.bool b122',.int .i64 x123',.bool b124',.bool b125',.int .i64 x126',.int .i64 x127',.int .i64 x128',.int .i64 x129',.int .i64 x130',.int .i64 x131',.int .i64 x132',.int .i64 x133',.int .i64 x134',.int .i64 x135',.int .i64 x136',.int .i64 x137',.int .i64 x138',.bool b139',.int .i64 x140',.int .i64 x141',.int .i64 x142',.int .i64 x143',.int .i64 x144',.bool b145',.int .i64 x146',.int .i64 x147',.slice s148'.1 (s148'.2.1) (s148'.2.2),.bool b149',.bool b150',.bool b151'] 41)).intAt .i64 a152'.block (a152'.off+9)) fun x162'=>
 onS ((M.new (.cells #[.bool b91',.int .i64 x92',.bool b93',.bool b94',.int .i64 x95',.int .i64 x96',.int .i64 x97',.int .i64 x98',.int .i64 x99',.int .i64 x100',.int .i64 x101',.int .i64 x102',.int .i64 x103',.int .i64 x104',.int .i64 x105',.int .i64 x106',.int .i64 x107',.bool b108',.int .i64 x109',.int .i64 x110',.int .i64 x111',.int .i64 x112',.int .i64 x113',.bool b114',.int .i64 x115',.int .i64 x116',.slice s117'.1 (s117'.2.1) (s117'.2.2),.bool b118',.bool b119',.bool b120',.bool b122',.int .i64 x123',.bool b124',.bool b125',.int .i64 x126',.int .i64 x127',.int .i64 x128',.int .i64 x129',.int .i64 x130',.int .i64 x131',.int .i64 x132',.int .i64 x133',.int .i64 x134',.int .i64 x135',.int .i64 x136',.int .i64 x137',.int .i64 x138',.bool b139',.int .i64 x140',.int .i64 x141',.int .i64 x142',.int .i64 x143',.int .i64 x144',.bool b145',.int .i64 x146',.int .i64 x147',.slice s148'.1 (s148'.2.1) (s148'.2.2),.bool b149',.bool b150',.bool b151'] 41)).intAt .i64 a152'.block (a152'.off+10)) fun x163'=>
 onS ((M.new (.cells #[.bool b91',.int .i64 x92',.bool b93',.bool b94',.int .i64 x95',.int .i64 x96',.int .i64 x97',.int .i64 x98',.int .i64 x99',.int .i64 x100',.int .i64 x101',.int .i64 x102',.int .i64 x103',.int .i64 x104',.int .i64 x105',.int .i64 x106',.int .i64 x107',.bool b108',.int .i64 x109',.int .i64 x110',.int .i64 x111',.int .i64 x112',.int .i64 x113',.bool b114',.int .i64 x115',.int .i64 x116',.slice s117'.1 (s117'.2.1) (s117'.2.2),.bool b118',.bool b119',.bool b120',.bool b122',.int .i64 x123',.bool b124',.bool b125',.int .i64 x126',.int .i64 x127',.int .i64 x128',.int .i64 x129',.int .i64 x130',.int .i64 x131',.int .i64 x132',.int .i64 x133',.int .i64 x134',.int .i64 x135',.int .i64 x136',.int .i64 x137',.int .i64 x138',.bool b139',.int .i64 x140',.int .i64 x141',.int .i64 x142',.int .i64 x143',.int .i64 x144',.bool b145',.int .i64 x146',.int .i64 x147',.slice s148'.1 (s148'.2.1) (s148'.2.2),.bool b149',.bool b150',.bool b151'] 41)).intAt .i64 a152'.block (a152'.off+11)) fun x164'=>
 onS ((M.new (.cells #[.bool b91',.int .i64 x92',.bool b93',.bool b94',.int .i64 x95',.int .i64 x96',.int .i64 x97',.int .i64 x98',.int .i64 x99',.int .i64 x100',.int .i64 x101',.int .i64 x102',.int .i64 x103',.int .i64 x104',.int .i64 x105',.int .i64 x106',.int .i64 x107',.bool b108',.int .i64 x109',.int .i64 x110',.int .i64 x111',.int .i64 x112',.int .i64 x113',.bool b114',.int .i64 x115',.int .i64 x116',.slice s117'.1 (s117'.2.1) (s117'.2.2),.bool b118',.bool b119',.bool b120',.bool b122',.int .i64 x123',.bool b124',.bool b125',.int .i64 x126',.int .i64 x127',.int .i64 x128',.int .i64 x129',.int .i64 x130',.int .i64 x131',.int .i64 x132',.int .i64 x133',.int .i64 x134',.int .i64 x135',.int .i64 x136',.int .i64 x137',.int .i64 x138',.bool b139',.int .i64 x140',.int .i64 x141',.int .i64 x142',.int .i64 x143',.int .i64 x144',.bool b145',.int .i64 x146',.int .i64 x147',.slice s148'.1 (s148'.2.1) (s148'.2.2),.bool b149',.bool b150',.bool b151'] 41)).intAt .i64 a152'.block (a152'.off+12)) fun x165'=>
 onS ((M.new (.cells #[.bool b91',.int .i64 x92',.bool b93',.bool b94',.int .i64 x95',.int .i64 x96',.int .i64 x97',.int .i64 x98',.int .i64 x99',.int .i64 x100',.int .i64 x101',.int .i64 x102',.int .i64 x103',.int .i64 x104',.int .i64 x105',.int .i64 x106',.int .i64 x107',.bool b108',.int .i64 x109',.int .i64 x110',.int .i64 x111',.int .i64 x112',.int .i64 x113',.bool b114',.int .i64 x115',.int .i64 x116',.slice s117'.1 (s117'.2.1) (s117'.2.2),.bool b118',.bool b119',.bool b120',.bool b122',.int .i64 x123',.bool b124',.bool b125',.int .i64 x126',.int .i64 x127',.int .i64 x128',.int .i64 x129',.int .i64 x130',.int .i64 x131',.int .i64 x132',.int .i64 x133',.int .i64 x134',.int .i64 x135',.int .i64 x136',.int .i64 x137',.int .i64 x138',.bool b139',.int .i64 x140',.int .i64 x141',.int .i64 x142',.int .i64 x143',.int .i64 x144',.bool b145',.int .i64 x146',.int .i64 x147',.slice s148'.1 (s148'.2.1) (s148'.2.2),.bool b149',.bool b150',.bool b151'] 41)).intAt .i64 a152'.block (a152'.off+13)) fun x166'=>
 onS ((M.new (.cells #[.bool b91',.int .i64 x92',.bool b93',.bool b94',.int .i64 x95',.int .i64 x96',.int .i64 x97',.int .i64 x98',.int .i64 x99',.int .i64 x100',.int .i64 x101',.int .i64 x102',.int .i64 x103',.int .i64 x104',.int .i64 x105',.int .i64 x106',.int .i64 x107',.bool b108',.int .i64 x109',.int .i64 x110',.int .i64 x111',.int .i64 x112',.int .i64 x113',.bool b114',.int .i64 x115',.int .i64 x116',.slice s117'.1 (s117'.2.1) (s117'.2.2),.bool b118',.bool b119',.bool b120',.bool b122',.int .i64 x123',.bool b124',.bool b125',.int .i64 x126',.int .i64 x127',.int .i64 x128',.int .i64 x129',.int .i64 x130',.int .i64 x131',.int .i64 x132',.int .i64 x133',.int .i64 x134',.int .i64 x135',.int .i64 x136',.int .i64 x137',.int .i64 x138',.bool b139',.int .i64 x140',.int .i64 x141',.int .i64 x142',.int .i64 x143',.int .i64 x144',.bool b145',.int .i64 x146',.int .i64 x147',.slice s148'.1 (s148'.2.1) (s148'.2.2),.bool b149',.bool b150',.bool b151'] 41)).intAt .i64 a152'.block (a152'.off+14)) fun x167'=>
 onS ((M.new (.cells #[.bool b91',.int .i64 x92',.bool b93',.bool b94',.int .i64 x95',.int .i64 x96',.int .i64 x97',.int .i64 x98',.int .i64 x99',.int .i64 x100',.int .i64 x101',.int .i64 x102',.int .i64 x103',.int .i64 x104',.int .i64 x105',.int .i64 x106',.int .i64 x107',.bool b108',.int .i64 x109',.int .i64 x110',.int .i64 x111',.int .i64 x112',.int .i64 x113',.bool b114',.int .i64 x115',.int .i64 x116',.slice s117'.1 (s117'.2.1) (s117'.2.2),.bool b118',.bool b119',.bool b120',.bool b122',.int .i64 x123',.bool b124',.bool b125',.int .i64 x126',.int .i64 x127',.int .i64 x128',.int .i64 x129',.int .i64 x130',.int .i64 x131',.int .i64 x132',.int .i64 x133',.int .i64 x134',.int .i64 x135',.int .i64 x136',.int .i64 x137',.int .i64 x138',.bool b139',.int .i64 x140',.int .i64 x141',.int .i64 x142',.int .i64 x143',.int .i64 x144',.bool b145',.int .i64 x146',.int .i64 x147',.slice s148'.1 (s148'.2.1) (s148'.2.2),.bool b149',.bool b150',.bool b151'] 41)).intAt .i64 a152'.block (a152'.off+15)) fun x168'=>
 onS ((M.new (.cells #[.bool b91',.int .i64 x92',.bool b93',.bool b94',.int .i64 x95',.int .i64 x96',.int .i64 x97',.int .i64 x98',.int .i64 x99',.int .i64 x100',.int .i64 x101',.int .i64 x102',.int .i64 x103',.int .i64 x104',.int .i64 x105',.int .i64 x106',.int .i64 x107',.bool b108',.int .i64 x109',.int .i64 x110',.int .i64 x111',.int .i64 x112',.int .i64 x113',.bool b114',.int .i64 x115',.int .i64 x116',.slice s117'.1 (s117'.2.1) (s117'.2.2),.bool b118',.bool b119',.bool b120',.bool b122',.int .i64 x123',.bool b124',.bool b125',.int .i64 x126',.int .i64 x127',.int .i64 x128',.int .i64 x129',.int .i64 x130',.int .i64 x131',.int .i64 x132',.int .i64 x133',.int .i64 x134',.int .i64 x135',.int .i64 x136',.int .i64 x137',.int .i64 x138',.bool b139',.int .i64 x140',.int .i64 x141',.int .i64 x142',.int .i64 x143',.int .i64 x144',.bool b145',.int .i64 x146',.int .i64 x147',.slice s148'.1 (s148'.2.1) (s148'.2.2),.bool b149',.bool b150',.bool b151'] 41)).intAt .i64 a152'.block (a152'.off+16)) fun x169'=>
 onS ((M.new (.cells #[.bool b91',.int .i64 x92',.bool b93',.bool b94',.int .i64 x95',.int .i64 x96',.int .i64 x97',.int .i64 x98',.int .i64 x99',.int .i64 x100',.int .i64 x101',.int .i64 x102',.int .i64 x103',.int .i64 x104',.int .i64 x105',.int .i64 x106',.int .i64 x107',.bool b108',.int .i64 x109',.int .i64 x110',.int .i64 x111',.int .i64 x112',.int .i64 x113',.bool b114',.int .i64 x115',.int .i64 x116',.slice s117'.1 (s117'.2.1) (s117'.2.2),.bool b118',.bool b119',.bool b120',.bool b122',.int .i64 x123',.bool b124',.bool b125',.int .i64 x126',.int .i64 x127',.int .i64 x128',.int .i64 x129',.int .i64 x130',.int .i64 x131',.int .i64 x132',.int .i64 x133',.int .i64 x134',.int .i64 x135',.int .i64 x136',.int .i64 x137',.int .i64 x138',.bool b139',.int .i64 x140',.int .i64 x141',.int .i64 x142',.int .i64 x143',.int .i64 x144',.bool b145',.int .i64 x146',.int .i64 x147',.slice s148'.1 (s148'.2.1) (s148'.2.2),.bool b149',.bool b150',.bool b151'] 41)).boolAt a152'.block (a152'.off+17)) fun b170'=>
 onS ((M.new (.cells #[.bool b91',.int .i64 x92',.bool b93',.bool b94',.int .i64 x95',.int .i64 x96',.int .i64 x97',.int .i64 x98',.int .i64 x99',.int .i64 x100',.int .i64 x101',.int .i64 x102',.int .i64 x103',.int .i64 x104',.int .i64 x105',.int .i64 x106',.int .i64 x107',.bool b108',.int .i64 x109',.int .i64 x110',.int .i64 x111',.int .i64 x112',.int .i64 x113',.bool b114',.int .i64 x115',.int .i64 x116',.slice s117'.1 (s117'.2.1) (s117'.2.2),.bool b118',.bool b119',.bool b120',.bool b122',.int .i64 x123',.bool b124',.bool b125',.int .i64 x126',.int .i64 x127',.int .i64 x128',.int .i64 x129',.int .i64 x130',.int .i64 x131',.int .i64 x132',.int .i64 x133',.int .i64 x134',.int .i64 x135',.int .i64 x136',.int .i64 x137',.int .i64 x138',.bool b139',.int .i64 x140',.int .i64 x141',.int .i64 x142',.int .i64 x143',.int .i64 x144',.bool b145',.int .i64 x146',.int .i64 x147',.slice s148'.1 (s148'.2.1) (s148'.2.2),.bool b149',.bool b150',.bool b151'] 41)).intAt .i64 a152'.block (a152'.off+18)) fun x171'=>
 onS ((M.new (.cells #[.bool b91',.int .i64 x92',.bool b93',.bool b94',.int .i64 x95',.int .i64 x96',.int .i64 x97',.int .i64 x98',.int .i64 x99',.int .i64 x100',.int .i64 x101',.int .i64 x102',.int .i64 x103',.int .i64 x104',.int .i64 x105',.int .i64 x106',.int .i64 x107',.bool b108',.int .i64 x109',.int .i64 x110',.int .i64 x111',.int .i64 x112',.int .i64 x113',.bool b114',.int .i64 x115',.int .i64 x116',.slice s117'.1 (s117'.2.1) (s117'.2.2),.bool b118',.bool b119',.bool b120',.bool b122',.int .i64 x123',.bool b124',.bool b125',.int .i64 x126',.int .i64 x127',.int .i64 x128',.int .i64 x129',.int .i64 x130',.int .i64 x131',.int .i64 x132',.int .i64 x133',.int .i64 x134',.int .i64 x135',.int .i64 x136',.int .i64 x137',.int .i64 x138',.bool b139',.int .i64 x140',.int .i64 x141',.int .i64 x142',.int .i64 x143',.int .i64 x144',.bool b145',.int .i64 x146',.int .i64 x147',.slice s148'.1 (s148'.2.1) (s148'.2.2),.bool b149',.bool b150',.bool b151'] 41)).intAt .i64 a152'.block (a152'.off+19)) fun x172'=>
 onS ((M.new (.cells #[.bool b91',.int .i64 x92',.bool b93',.bool b94',.int .i64 x95',.int .i64 x96',.int .i64 x97',.int .i64 x98',.int .i64 x99',.int .i64 x100',.int .i64 x101',.int .i64 x102',.int .i64 x103',.int .i64 x104',.int .i64 x105',.int .i64 x106',.int .i64 x107',.bool b108',.int .i64 x109',.int .i64 x110',.int .i64 x111',.int .i64 x112',.int .i64 x113',.bool b114',.int .i64 x115',.int .i64 x116',.slice s117'.1 (s117'.2.1) (s117'.2.2),.bool b118',.bool b119',.bool b120',.bool b122',.int .i64 x123',.bool b124',.bool b125',.int .i64 x126',.int .i64 x127',.int .i64 x128',.int .i64 x129',.int .i64 x130',.int .i64 x131',.int .i64 x132',.int .i64 x133',.int .i64 x134',.int .i64 x135',.int .i64 x136',.int .i64 x137',.int .i64 x138',.bool b139',.int .i64 x140',.int .i64 x141',.int .i64 x142',.int .i64 x143',.int .i64 x144',.bool b145',.int .i64 x146',.int .i64 x147',.slice s148'.1 (s148'.2.1) (s148'.2.2),.bool b149',.bool b150',.bool b151'] 41)).intAt .i64 a152'.block (a152'.off+20)) fun x173'=>
 onS ((M.new (.cells #[.bool b91',.int .i64 x92',.bool b93',.bool b94',.int .i64 x95',.int .i64 x96',.int .i64 x97',.int .i64 x98',.int .i64 x99',.int .i64 x100',.int .i64 x101',.int .i64 x102',.int .i64 x103',.int .i64 x104',.int .i64 x105',.int .i64 x106',.int .i64 x107',.bool b108',.int .i64 x109',.int .i64 x110',.int .i64 x111',.int .i64 x112',.int .i64 x113',.bool b114',.int .i64 x115',.int .i64 x116',.slice s117'.1 (s117'.2.1) (s117'.2.2),.bool b118',.bool b119',.bool b120',.bool b122',.int .i64 x123',.bool b124',.bool b125',.int .i64 x126',.int .i64 x127',.int .i64 x128',.int .i64 x129',.int .i64 x130',.int .i64 x131',.int .i64 x132',.int .i64 x133',.int .i64 x134',.int .i64 x135',.int .i64 x136',.int .i64 x137',.int .i64 x138',.bool b139',.int .i64 x140',.int .i64 x141',.int .i64 x142',.int .i64 x143',.int .i64 x144',.bool b145',.int .i64 x146',.int .i64 x147',.slice s148'.1 (s148'.2.1) (s148'.2.2),.bool b149',.bool b150',.bool b151'] 41)).intAt .i64 a152'.block (a152'.off+21)) fun x174'=>
 onS ((M.new (.cells #[.bool b91',.int .i64 x92',.bool b93',.bool b94',.int .i64 x95',.int .i64 x96',.int .i64 x97',.int .i64 x98',.int .i64 x99',.int .i64 x100',.int .i64 x101',.int .i64 x102',.int .i64 x103',.int .i64 x104',.int .i64 x105',.int .i64 x106',.int .i64 x107',.bool b108',.int .i64 x109',.int .i64 x110',.int .i64 x111',.int .i64 x112',.int .i64 x113',.bool b114',.int .i64 x115',.int .i64 x116',.slice s117'.1 (s117'.2.1) (s117'.2.2),.bool b118',.bool b119',.bool b120',.bool b122',.int .i64 x123',.bool b124',.bool b125',.int .i64 x126',.int .i64 x127',.int .i64 x128',.int .i64 x129',.int .i64 x130',.int .i64 x131',.int .i64 x132',.int .i64 x133',.int .i64 x134',.int .i64 x135',.int .i64 x136',.int .i64 x137',.int .i64 x138',.bool b139',.int .i64 x140',.int .i64 x141',.int .i64 x142',.int .i64 x143',.int .i64 x144',.bool b145',.int .i64 x146',.int .i64 x147',.slice s148'.1 (s148'.2.1) (s148'.2.2),.bool b149',.bool b150',.bool b151'] 41)).intAt .i64 a152'.block (a152'.off+22)) fun x175'=>
 onS ((M.new (.cells #[.bool b91',.int .i64 x92',.bool b93',.bool b94',.int .i64 x95',.int .i64 x96',.int .i64 x97',.int .i64 x98',.int .i64 x99',.int .i64 x100',.int .i64 x101',.int .i64 x102',.int .i64 x103',.int .i64 x104',.int .i64 x105',.int .i64 x106',.int .i64 x107',.bool b108',.int .i64 x109',.int .i64 x110',.int .i64 x111',.int .i64 x112',.int .i64 x113',.bool b114',.int .i64 x115',.int .i64 x116',.slice s117'.1 (s117'.2.1) (s117'.2.2),.bool b118',.bool b119',.bool b120',.bool b122',.int .i64 x123',.bool b124',.bool b125',.int .i64 x126',.int .i64 x127',.int .i64 x128',.int .i64 x129',.int .i64 x130',.int .i64 x131',.int .i64 x132',.int .i64 x133',.int .i64 x134',.int .i64 x135',.int .i64 x136',.int .i64 x137',.int .i64 x138',.bool b139',.int .i64 x140',.int .i64 x141',.int .i64 x142',.int .i64 x143',.int .i64 x144',.bool b145',.int .i64 x146',.int .i64 x147',.slice s148'.1 (s148'.2.1) (s148'.2.2),.bool b149',.bool b150',.bool b151'] 41)).boolAt a152'.block (a152'.off+23)) fun b176'=>
 onS ((M.new (.cells #[.bool b91',.int .i64 x92',.bool b93',.bool b94',.int .i64 x95',.int .i64 x96',.int .i64 x97',.int .i64 x98',.int .i64 x99',.int .i64 x100',.int .i64 x101',.int .i64 x102',.int .i64 x103',.int .i64 x104',.int .i64 x105',.int .i64 x106',.int .i64 x107',.bool b108',.int .i64 x109',.int .i64 x110',.int .i64 x111',.int .i64 x112',.int .i64 x113',.bool b114',.int .i64 x115',.int .i64 x116',.slice s117'.1 (s117'.2.1) (s117'.2.2),.bool b118',.bool b119',.bool b120',.bool b122',.int .i64 x123',.bool b124',.bool b125',.int .i64 x126',.int .i64 x127',.int .i64 x128',.int .i64 x129',.int .i64 x130',.int .i64 x131',.int .i64 x132',.int .i64 x133',.int .i64 x134',.int .i64 x135',.int .i64 x136',.int .i64 x137',.int .i64 x138',.bool b139',.int .i64 x140',.int .i64 x141',.int .i64 x142',.int .i64 x143',.int .i64 x144',.bool b145',.int .i64 x146',.int .i64 x147',.slice s148'.1 (s148'.2.1) (s148'.2.2),.bool b149',.bool b150',.bool b151'] 41)).intAt .i64 a152'.block (a152'.off+24)) fun x177'=>
 onS ((M.new (.cells #[.bool b91',.int .i64 x92',.bool b93',.bool b94',.int .i64 x95',.int .i64 x96',.int .i64 x97',.int .i64 x98',.int .i64 x99',.int .i64 x100',.int .i64 x101',.int .i64 x102',.int .i64 x103',.int .i64 x104',.int .i64 x105',.int .i64 x106',.int .i64 x107',.bool b108',.int .i64 x109',.int .i64 x110',.int .i64 x111',.int .i64 x112',.int .i64 x113',.bool b114',.int .i64 x115',.int .i64 x116',.slice s117'.1 (s117'.2.1) (s117'.2.2),.bool b118',.bool b119',.bool b120',.bool b122',.int .i64 x123',.bool b124',.bool b125',.int .i64 x126',.int .i64 x127',.int .i64 x128',.int .i64 x129',.int .i64 x130',.int .i64 x131',.int .i64 x132',.int .i64 x133',.int .i64 x134',.int .i64 x135',.int .i64 x136',.int .i64 x137',.int .i64 x138',.bool b139',.int .i64 x140',.int .i64 x141',.int .i64 x142',.int .i64 x143',.int .i64 x144',.bool b145',.int .i64 x146',.int .i64 x147',.slice s148'.1 (s148'.2.1) (s148'.2.2),.bool b149',.bool b150',.bool b151'] 41)).intAt .i64 a152'.block (a152'.off+25)) fun x178'=>
 onS ((M.new (.cells #[.bool b91',.int .i64 x92',.bool b93',.bool b94',.int .i64 x95',.int .i64 x96',.int .i64 x97',.int .i64 x98',.int .i64 x99',.int .i64 x100',.int .i64 x101',.int .i64 x102',.int .i64 x103',.int .i64 x104',.int .i64 x105',.int .i64 x106',.int .i64 x107',.bool b108',.int .i64 x109',.int .i64 x110',.int .i64 x111',.int .i64 x112',.int .i64 x113',.bool b114',.int .i64 x115',.int .i64 x116',.slice s117'.1 (s117'.2.1) (s117'.2.2),.bool b118',.bool b119',.bool b120',.bool b122',.int .i64 x123',.bool b124',.bool b125',.int .i64 x126',.int .i64 x127',.int .i64 x128',.int .i64 x129',.int .i64 x130',.int .i64 x131',.int .i64 x132',.int .i64 x133',.int .i64 x134',.int .i64 x135',.int .i64 x136',.int .i64 x137',.int .i64 x138',.bool b139',.int .i64 x140',.int .i64 x141',.int .i64 x142',.int .i64 x143',.int .i64 x144',.bool b145',.int .i64 x146',.int .i64 x147',.slice s148'.1 (s148'.2.1) (s148'.2.2),.bool b149',.bool b150',.bool b151'] 41)).slAt a152'.block (a152'.off+26)) fun s179'=>
 onS ((M.new (.cells #[.bool b91',.int .i64 x92',.bool b93',.bool b94',.int .i64 x95',.int .i64 x96',.int .i64 x97',.int .i64 x98',.int .i64 x99',.int .i64 x100',.int .i64 x101',.int .i64 x102',.int .i64 x103',.int .i64 x104',.int .i64 x105',.int .i64 x106',.int .i64 x107',.bool b108',.int .i64 x109',.int .i64 x110',.int .i64 x111',.int .i64 x112',.int .i64 x113',.bool b114',.int .i64 x115',.int .i64 x116',.slice s117'.1 (s117'.2.1) (s117'.2.2),.bool b118',.bool b119',.bool b120',.bool b122',.int .i64 x123',.bool b124',.bool b125',.int .i64 x126',.int .i64 x127',.int .i64 x128',.int .i64 x129',.int .i64 x130',.int .i64 x131',.int .i64 x132',.int .i64 x133',.int .i64 x134',.int .i64 x135',.int .i64 x136',.int .i64 x137',.int .i64 x138',.bool b139',.int .i64 x140',.int .i64 x141',.int .i64 x142',.int .i64 x143',.int .i64 x144',.bool b145',.int .i64 x146',.int .i64 x147',.slice s148'.1 (s148'.2.1) (s148'.2.2),.bool b149',.bool b150',.bool b151'] 41)).boolAt a152'.block (a152'.off+27)) fun b180'=>
 onS ((M.new (.cells #[.bool b91',.int .i64 x92',.bool b93',.bool b94',.int .i64 x95',.int .i64 x96',.int .i64 x97',.int .i64 x98',.int .i64 x99',.int .i64 x100',.int .i64 x101',.int .i64 x102',.int .i64 x103',.int .i64 x104',.int .i64 x105',.int .i64 x106',.int .i64 x107',.bool b108',.int .i64 x109',.int .i64 x110',.int .i64 x111',.int .i64 x112',.int .i64 x113',.bool b114',.int .i64 x115',.int .i64 x116',.slice s117'.1 (s117'.2.1) (s117'.2.2),.bool b118',.bool b119',.bool b120',.bool b122',.int .i64 x123',.bool b124',.bool b125',.int .i64 x126',.int .i64 x127',.int .i64 x128',.int .i64 x129',.int .i64 x130',.int .i64 x131',.int .i64 x132',.int .i64 x133',.int .i64 x134',.int .i64 x135',.int .i64 x136',.int .i64 x137',.int .i64 x138',.bool b139',.int .i64 x140',.int .i64 x141',.int .i64 x142',.int .i64 x143',.int .i64 x144',.bool b145',.int .i64 x146',.int .i64 x147',.slice s148'.1 (s148'.2.1) (s148'.2.2),.bool b149',.bool b150',.bool b151'] 41)).boolAt a152'.block (a152'.off+28)) fun b181'=>
 onS ((M.new (.cells #[.bool b91',.int .i64 x92',.bool b93',.bool b94',.int .i64 x95',.int .i64 x96',.int .i64 x97',.int .i64 x98',.int .i64 x99',.int .i64 x100',.int .i64 x101',.int .i64 x102',.int .i64 x103',.int .i64 x104',.int .i64 x105',.int .i64 x106',.int .i64 x107',.bool b108',.int .i64 x109',.int .i64 x110',.int .i64 x111',.int .i64 x112',.int .i64 x113',.bool b114',.int .i64 x115',.int .i64 x116',.slice s117'.1 (s117'.2.1) (s117'.2.2),.bool b118',.bool b119',.bool b120',.bool b122',.int .i64 x123',.bool b124',.bool b125',.int .i64 x126',.int .i64 x127',.int .i64 x128',.int .i64 x129',.int .i64 x130',.int .i64 x131',.int .i64 x132',.int .i64 x133',.int .i64 x134',.int .i64 x135',.int .i64 x136',.int .i64 x137',.int .i64 x138',.bool b139',.int .i64 x140',.int .i64 x141',.int .i64 x142',.int .i64 x143',.int .i64 x144',.bool b145',.int .i64 x146',.int .i64 x147',.slice s148'.1 (s148'.2.1) (s148'.2.2),.bool b149',.bool b150',.bool b151'] 41)).boolAt a152'.block (a152'.off+29)) fun b182'=>
 adS x2 fun a183'=>
 stP (some 30) #[.bool b153',.int .i64 x154',.bool b155',.bool b156',.int .i64 x157',.int .i64 x158',.int .i64 x159',.int .i64 x160',.int .i64 x161',.int .i64 x162',.int .i64 x163',.int .i64 x164',.int .i64 x165',.int .i64 x166',.int .i64 x167',.int .i64 x168',.int .i64 x169',.bool b170',.int .i64 x171',.int .i64 x172',.int .i64 x173',.int .i64 x174',.int .i64 x175',.bool b176',.int .i64 x177',.int .i64 x178',.slice s179'.1 (s179'.2.1) (s179'.2.2),.bool b180',.bool b181',.bool b182'] (M.new (.cells #[.bool b91',.int .i64 x92',.bool b93',.bool b94',.int .i64 x95',.int .i64 x96',.int .i64 x97',.int .i64 x98',.int .i64 x99',.int .i64 x100',.int .i64 x101',.int .i64 x102',.int .i64 x103',.int .i64 x104',.int .i64 x105',.int .i64 x106',.int .i64 x107',.bool b108',.int .i64 x109',.int .i64 x110',.int .i64 x111',.int .i64 x112',.int .i64 x113',.bool b114',.int .i64 x115',.int .i64 x116',.slice s117'.1 (s117'.2.1) (s117'.2.2),.bool b118',.bool b119',.bool b120',.bool b122',.int .i64 x123',.bool b124',.bool b125',.int .i64 x126',.int .i64 x127',.int .i64 x128',.int .i64 x129',.int .i64 x130',.int .i64 x131',.int .i64 x132',.int .i64 x133',.int .i64 x134',.int .i64 x135',.int .i64 x136',.int .i64 x137',.int .i64 x138',.bool b139',.int .i64 x140',.int .i64 x141',.int .i64 x142',.int .i64 x143',.int .i64 x144',.bool b145',.int .i64 x146',.int .i64 x147',.slice s148'.1 (s148'.2.1) (s148'.2.2),.bool b149',.bool b150',.bool b151'] 41)) a183'.block a183'.off fun M184'=>
 adS x2 fun a185'=>
 onS (M184'.boolAt a185'.block a185'.off) fun b186'=>
 onS (M184'.intAt .i64 a185'.block (a185'.off+1)) fun x187'=>
 onS (M184'.boolAt a185'.block (a185'.off+2)) fun b188'=>
 onS (M184'.boolAt a185'.block (a185'.off+3)) fun b189'=>
 onS (M184'.intAt .i64 a185'.block (a185'.off+4)) fun x190'=>
 onS (M184'.intAt .i64 a185'.block (a185'.off+5)) fun x191'=>
 onS (M184'.intAt .i64 a185'.block (a185'.off+6)) fun x192'=>
 onS (M184'.intAt .i64 a185'.block (a185'.off+7)) fun x193'=>
 onS (M184'.intAt .i64 a185'.block (a185'.off+8)) fun x194'=>
 onS (M184'.intAt .i64 a185'.block (a185'.off+9)) fun x195'=>
 onS (M184'.intAt .i64 a185'.block (a185'.off+10)) fun x196'=>
 onS (M184'.intAt .i64 a185'.block (a185'.off+11)) fun x197'=>
 onS (M184'.intAt .i64 a185'.block (a185'.off+12)) fun x198'=>
 onS (M184'.intAt .i64 a185'.block (a185'.off+13)) fun x199'=>
 onS (M184'.intAt .i64 a185'.block (a185'.off+14)) fun x200'=>
 onS (M184'.intAt .i64 a185'.block (a185'.off+15)) fun x201'=>
 onS (M184'.intAt .i64 a185'.block (a185'.off+16)) fun x202'=>
 onS (M184'.boolAt a185'.block (a185'.off+17)) fun b203'=>
 onS (M184'.intAt .i64 a185'.block (a185'.off+18)) fun x204'=>
 onS (M184'.intAt .i64 a185'.block (a185'.off+19)) fun x205'=>
 onS (M184'.intAt .i64 a185'.block (a185'.off+20)) fun x206'=>
 onS (M184'.intAt .i64 a185'.block (a185'.off+21)) fun x207'=>
 onS (M184'.intAt .i64 a185'.block (a185'.off+22)) fun x208'=>
 onS (M184'.boolAt a185'.block (a185'.off+23)) fun b209'=>
 onS (M184'.intAt .i64 a185'.block (a185'.off+24)) fun x210'=>
 onS (M184'.intAt .i64 a185'.block (a185'.off+25)) fun x211'=>
 onS (M184'.slAt a185'.block (a185'.off+26)) fun s212'=>
 onS (M184'.boolAt a185'.block (a185'.off+27)) fun b213'=>
 onS (M184'.boolAt a185'.block (a185'.off+28)) fun b214'=>
 onS (M184'.boolAt a185'.block (a185'.off+29)) fun b215'=>
 Q (.agg #[.bool b186',.int .i64 (x187'),.bool b188',.bool b189',.int .i64 (x190'),.int .i64 (x191'),.int .i64 (x192'),.int .i64 (x193'),.int .i64 (x194'),.int .i64 (x195'),.int .i64 (x196'),.int .i64 (x197'),.int .i64 (x198'),.int .i64 (x199'),.int .i64 (x200'),.int .i64 (x201'),.int .i64 (x202'),.bool b203',.int .i64 (x204'),.int .i64 (x205'),.int .i64 (x206'),.int .i64 (x207'),.int .i64 (x208'),.bool b209',.int .i64 (x210'),.int .i64 (x211'),.slice s212'.1 (s212'.2.1) (s212'.2.2),.bool b213',.bool b214',.bool b215']) M184'):
 A42_1 x0 x2 x3 x4 M Q:=
 LvP.mk (cuts:=K42) (sp:=Z42) 900 H fun G=>by kernel_rfl
end Go.Zt
