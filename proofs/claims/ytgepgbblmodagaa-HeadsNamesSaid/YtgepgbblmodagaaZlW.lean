/- Layer 20: the program's coding of filters,whole. -/
import Derived.Test.YtgepgbblmodagaaZlP
import Derived.Test.YtgepgbblmodagaaProg
import Derived.Test.YtgepgbblmodagaaZkA
import Derived.Test.YtgepgbblmodagaaZqT
set_option linter.unusedSimpArgs false
set_option linter.unusedVariables false
set_option maxRecDepth 100000
namespace Go.Zt
open Go Go.Sim Go.Proofs Go.RowKit
theorem sgsD_w:∀ (X:List Sg) (l:List Nat) (e:Nat),(sgsD (.w l) e X).2.2=X∧∃ l',(sgsD (.w l) e X).1=.w l'
  | [],l,e=>⟨rfl,l,rfl⟩
  | x::X,l,e=>by
    have nv:∀ {l:List Nat} {e:Nat} {v n f:Int},(numD (.w l) e v n f).2.2=v:=by
      intro l e v n f; unfold numD; split <;> rfl
    have s1:(sg1 (.w l) e x).2.2=x∧∃ l',(sg1 (.w l) e x).1=.w l':=by
      unfold sg1
      obtain ⟨l1,h1⟩:=(numD_kind (d:=.w l) (e:=e) (v:=x.a) (n:=4) (f:=0)).1 _ rfl
      simp only [h1]
      obtain ⟨l2,h2⟩:=(numD_kind (d:=.w l1) (e:=(numD (.w l) e x.a 4 0).2.1) (v:=x.b) (n:=2) (f:=0)).1 _ rfl
      simp only [h2]
      obtain ⟨l3,h3⟩:=(numD_kind (d:=.w l2) (e:=(numD (.w l1) (numD (.w l) e x.a 4 0).2.1 x.b 2 0).2.1) (v:=x.c) (n:=4) (f:=0)).1 _ rfl
      simp only [h3,nv,true_and]
      exact numD_kind.1 _ rfl
    obtain ⟨g1,l1,g2⟩:=s1
    obtain ⟨q1,q2⟩:=sgsD_w X l1 (sg1 (.w l) e x).2.1
    simp only [sgsD,g2,g1,q1,true_and]
    exact q2
theorem numD_val {b:List Nat} {p e:Nat} {v n f:Int} (h0:0≤n) (h:(numD (.r b p) e v n f).2.1=0):∃ x:Nat,x<2 ^ n.toNat∧(numD (.r b p) e v n f).2.2=(x:Int)+f:=by
  by_cases he:e≠0
  · unfold numD at h; rw [if_pos he] at h; exact absurd h he
  · obtain rfl:e=0:=by omega
    have h1:(rFixed b p n).2.1=0:=h
    refine ⟨(rFixed b p n).1,?_,?_⟩
    · have hp:=Nat.two_pow_pos n.toNat
      unfold rFixed
      split
      · exact hp
      · split
        · exact hp
        · exact numb_lt (bitOf_lt b) p n.toNat
    · show (if (rFixed b p n).2.1=0 then _ else _)=_
      rw [if_pos h1]
theorem mk38_0 {M:Mem}:makeP Try.prog 38 (.int .i64 (1*2 ^ 0)) (.int .i64 (1*2 ^ 0)) M=some (.slice (some ⟨2*M.nb.size,0,none⟩) (2 ^ 0) (2 ^ 0),M.new (.cells (Sgs (List.replicate (2 ^ 0) ⟨0,0,0,0⟩)).toArray 96)):=by kernel_rfl
theorem mk38_1 {M:Mem}:makeP Try.prog 38 (.int .i64 (1*2 ^ 1)) (.int .i64 (1*2 ^ 1)) M=some (.slice (some ⟨2*M.nb.size,0,none⟩) (2 ^ 1) (2 ^ 1),M.new (.cells (Sgs (List.replicate (2 ^ 1) ⟨0,0,0,0⟩)).toArray 96)):=by kernel_rfl
theorem mk38_2 {M:Mem}:makeP Try.prog 38 (.int .i64 (1*2 ^ 2)) (.int .i64 (1*2 ^ 2)) M=some (.slice (some ⟨2*M.nb.size,0,none⟩) (2 ^ 2) (2 ^ 2),M.new (.cells (Sgs (List.replicate (2 ^ 2) ⟨0,0,0,0⟩)).toArray 96)):=by kernel_rfl
theorem mk38_3 {M:Mem}:makeP Try.prog 38 (.int .i64 (1*2 ^ 3)) (.int .i64 (1*2 ^ 3)) M=some (.slice (some ⟨2*M.nb.size,0,none⟩) (2 ^ 3) (2 ^ 3),M.new (.cells (Sgs (List.replicate (2 ^ 3) ⟨0,0,0,0⟩)).toArray 96)):=by kernel_rfl
theorem mk38 {M:Mem} (q:Nat) (hq:q≤3):makeP Try.prog 38 (.int .i64 (1*2 ^ q)) (.int .i64 (1*2 ^ q)) M=some (.slice (some ⟨2*M.nb.size,0,none⟩) (2 ^ q) (2 ^ q),M.new (.cells (Sgs (List.replicate (2 ^ q) ⟨0,0,0,0⟩)).toArray 96)):=by
  have:q=0∨q=1∨q=2∨q=3:=by omega
  rcases this with rfl | rfl | rfl | rfl
  · exact mk38_0
  · exact mk38_1
  · exact mk38_2
  · exact mk38_3
def StrT (c0:Cd) (X0:List Sg) (c:Cd) (X:List Sg):Prop:=
  ∃ c1,c1=nF c0 c0.2.2.da (fun x=>{ c0.2.2 with da:=x }) 2 3∧∃ c2,c2=nF c1 c1.2.2.cb (fun x=>{ c1.2.2 with cb:=x }) 2 0∧
  ∃ c3 X3,(match c2.1 with
    | .w _=>c3=c2∧X3=X0
    | .r _ _=>if c2.2.1=0 then (∃ A m,c3=(c2.1,c2.2.1,{ c2.2.2 with A:=A,n:=2 ^ c2.2.2.cb.toNat,c:=m }))∧X3=List.replicate (2 ^ c2.2.2.cb.toNat) ⟨0,0,0,0⟩ else c3=c2∧X3=X0)∧
  c=((sgsD c3.1 c3.2.1 X3).1,(sgsD c3.1 c3.2.1 X3).2.1,c3.2.2)∧X=(sgsD c3.1 c3.2.1 X3).2.2
def FiltT (c0:Cd) (X0:List Sg) (c:Cd) (X:List Sg):Prop:=
  ∃ c1,c1=nF c0 c0.2.2.l0 (fun x=>{ c0.2.2 with l0:=x }) 6 0∧∃ c2,c2=nF c1 c1.2.2.l1 (fun x=>{ c1.2.2 with l1:=x }) 6 0∧
  ∃ c3,c3=nF c2 c2.2.2.l2 (fun x=>{ c2.2.2 with l2:=x }) 6 0∧∃ c4,c4=nF c3 c3.2.2.l3 (fun x=>{ c3.2.2 with l3:=x }) 6 0∧
  ∃ c5,c5=nF c4 c4.2.2.sp (fun x=>{ c4.2.2 with sp:=x }) 3 0∧∃ c6,c6=fF c5 c5.2.2.cd (fun x=>{ c5.2.2 with cd:=x })∧
  ∃ c7,(if c6.2.2.cd=true∧c6.2.1=0 then StrT c6 X0 c7 X else c7=c6∧X=X0)∧
  ∃ c8,c8=fF c7 c7.2.2.x0 (fun x=>{ c7.2.2 with x0:=x })∧∃ c9,c9=fF c8 c8.2.2.x1 (fun x=>{ c8.2.2 with x1:=x })∧c=fF c9 c9.2.2.x2 (fun x=>{ c9.2.2 with x2:=x })
section
variable {U:Nat→Prop} {M N:Mem} {jc jd jh k:Nat} {c:Cd} {X:List Sg}
theorem dkind {d:Dv}:(∃ l,d=.w l)∨∃ b p,d=.r b p:=by cases d <;> simp
structure Xm (U:Nat→Prop) (M:Mem) (jc jd jh:Nat) (c:Cd) (X:List Sg):Prop where
  n:c.2.2.n=X.length
  row:Row M c.2.2.A (Sgs X)
  far:Far U jc jd jh M c.2.2.A
theorem Xm.ext {U':Nat→Prop} {c':Cd} (h:Xm U M jc jd jh c X) (E:Ext (Pj jc jd jh) U M U' N) (e1:c'.2.2.n=c.2.2.n) (e2:c'.2.2.A=c.2.2.A):Xm U' N jc jd jh c' X:=
  ⟨by rw [e1]; exact h.n,by rw [e2]; exact h.far.row h.row E fun _ h=>h,by rw [e2]; exact h.far.ext E fun _ h=>h⟩
theorem e78_4 {Q:Value→Mem→Prop} (H:Hm U M jc jd jh c (k+3))
    (K:∀ U' N c8 c9 c',c8=fF c c.2.2.x0 (fun x=>{ c.2.2 with x0:=x })→c9=fF c8 c8.2.2.x1 (fun x=>{ c8.2.2 with x1:=x })→c'=fF c9 c9.2.2.x2 (fun x=>{ c9.2.2 with x2:=x })→Ext (Pj jc jd jh) U M U' N→Hm U' N jc jd jh c' k→Q (.tuple #[]) N):
    A78_4 (some ⟨2*jc,0,none⟩) (some ⟨2*jh,0,none⟩) 0 M Q:=by
  refine w78_4 (cT (by decide) (ad rfl (ix (x:=⟨2*jh,27,none⟩) (by kernel_rfl) (fK .refl H rfl (fun x=>{ c.2.2 with x0:=x }) (fun _=>rfl) fun U1 N1 c8 h8 E1 H1=>?_))))
  refine w78_4 (cT (by decide) (ad rfl (ix (x:=⟨2*jh,28,none⟩) (by kernel_rfl) (fK E1 H1 rfl (fun x=>{ c8.2.2 with x1:=x }) (fun _=>rfl) fun U2 N2 c9 h9 E2 H2=>?_))))
  refine w78_4 (cT (by decide) (ad rfl (ix (x:=⟨2*jh,29,none⟩) (by kernel_rfl) (fK E2 H2 rfl (fun x=>{ c9.2.2 with x2:=x }) (fun _=>rfl) fun U3 N3 c' h' E3 H3=>?_))))
  exact w78_4 (cF (by decide) (K U3 N3 c8 c9 c' h8 h9 h' E3 H3))
set_option maxHeartbeats 1000000 in
theorem c78 (H:Hm U M jc jd jh c (k+50)) (hX:Xm U M jc jd jh c X) (hb:X.length≤8) (hr:∀ b p,c.1=.r b p→X=[]):
    Cn Try.prog 78 #[PtrB jc,PtrB jh] M fun u N=>u=.tuple #[]∧∃ U' c' X',FiltT c X c' X'∧Ext (Pj jc jd jh) U M U' N∧Hm U' N jc jd jh c' k∧Xm U' N jc jd jh c' X'∧∀ a,c'.2.2.A=some a→c.2.2.A=some a∨M.nb.size≤a.block / 2:=by
  have hjd:=H.st.dev.lt
  have hjc:=lt_of_at H.st.cod
  have hjh:=lt_of_at H.hd
  refine w78_0 ?_
  refine w78_1 (cT (by decide) (ad rfl (ix (x:=⟨2*jh,18,none⟩) (by kernel_rfl) (nK .refl H rfl (by decide) (by decide) (fun x=>{ c.2.2 with l0:=x }) (fun _=>rfl) fun U1 N1 c1 h1 E1 H1=>?_))))
  refine w78_1 (cT (by decide) (ad rfl (ix (x:=⟨2*jh,19,none⟩) (by kernel_rfl) (nK E1 H1 rfl (by decide) (by decide) (fun x=>{ c1.2.2 with l1:=x }) (fun _=>rfl) fun U2 N2 c2 h2 E2 H2=>?_))))
  refine w78_1 (cT (by decide) (ad rfl (ix (x:=⟨2*jh,20,none⟩) (by kernel_rfl) (nK E2 H2 rfl (by decide) (by decide) (fun x=>{ c2.2.2 with l2:=x }) (fun _=>rfl) fun U3 N3 c3 h3 E3 H3=>?_))))
  refine w78_1 (cT (by decide) (ad rfl (ix (x:=⟨2*jh,21,none⟩) (by kernel_rfl) (nK E3 H3 rfl (by decide) (by decide) (fun x=>{ c3.2.2 with l3:=x }) (fun _=>rfl) fun U4 N4 c4 h4 E4 H4=>?_))))
  refine w78_1 (cF (by decide) (ad rfl (nK E4 H4 rfl (by decide) (by decide) (fun x=>{ c4.2.2 with sp:=x }) (fun _=>rfl) fun U5 N5 c5 h5 E5 H5=>ad rfl (fK E5 H5 rfl (fun x=>{ c5.2.2 with cd:=x }) (fun _=>rfl) fun U6 N6 c6 h6 E6 H6=>ad rfl (on (bool_of H6.hd rfl) ?_)))))
  have g1:c1.2.2.n=c.2.2.n∧c1.2.2.A=c.2.2.A:=by rw [h1]; exact ⟨rfl,rfl⟩
  have g2:c2.2.2.n=c1.2.2.n∧c2.2.2.A=c1.2.2.A:=by rw [h2]; exact ⟨rfl,rfl⟩
  have g3:c3.2.2.n=c2.2.2.n∧c3.2.2.A=c2.2.2.A:=by rw [h3]; exact ⟨rfl,rfl⟩
  have g4:c4.2.2.n=c3.2.2.n∧c4.2.2.A=c3.2.2.A:=by rw [h4]; exact ⟨rfl,rfl⟩
  have g5:c5.2.2.n=c4.2.2.n∧c5.2.2.A=c4.2.2.A:=by rw [h5]; exact ⟨rfl,rfl⟩
  have g6:c6.2.2.n=c5.2.2.n∧c6.2.2.A=c5.2.2.A:=by rw [h6]; exact ⟨rfl,rfl⟩
  have n6:c6.2.2.n=c.2.2.n:=by rw [g6.1,g5.1,g4.1,g3.1,g2.1,g1.1]
  have A6:c6.2.2.A=c.2.2.A:=by rw [g6.2,g5.2,g4.2,g3.2,g2.2,g1.2]
  clear g1 g2 g3 g4 g5 g6
  have X6:=hX.ext E6 n6 A6
  have r6:∀ b p,c6.1=.r b p→X=[]:=by
    intro b p hc
    rcases dkind (d:=c.1) with ⟨l,hl⟩ | ⟨b0,p0,hl⟩
    · exfalso
      obtain ⟨l1,k1⟩:=(numD_kind (e:=c.2.1) (v:=c.2.2.l0) (n:=6) (f:=0)).1 _ hl
      have g1:c1.1=.w l1:=by rw [h1]; exact k1
      obtain ⟨l2,k2⟩:=(numD_kind (e:=c1.2.1) (v:=c1.2.2.l1) (n:=6) (f:=0)).1 _ g1
      have g2:c2.1=.w l2:=by rw [h2]; exact k2
      obtain ⟨l3,k3⟩:=(numD_kind (e:=c2.2.1) (v:=c2.2.2.l2) (n:=6) (f:=0)).1 _ g2
      have g3:c3.1=.w l3:=by rw [h3]; exact k3
      obtain ⟨l4,k4⟩:=(numD_kind (e:=c3.2.1) (v:=c3.2.2.l3) (n:=6) (f:=0)).1 _ g3
      have g4:c4.1=.w l4:=by rw [h4]; exact k4
      obtain ⟨l5,k5⟩:=(numD_kind (e:=c4.2.1) (v:=c4.2.2.sp) (n:=3) (f:=0)).1 _ g4
      have g5:c5.1=.w l5:=by rw [h5]; exact k5
      obtain ⟨l6,k6⟩:=(numD_kind (e:=c5.2.1) (v:=if c5.2.2.cd then 1 else 0) (n:=1) (f:=0)).1 _ g5
      have g6:c6.1=.w l6:=by rw [h6]; exact k6
      rw [g6] at hc; cases hc
    · exact hr _ _ hl
  have fin:∀ {U7:Nat→Prop} {M7:Mem} {c7:Cd} {X7:List Sg},(if c6.2.2.cd=true∧c6.2.1=0 then StrT c6 X c7 X7 else c7=c6∧X7=X)→Ext (Pj jc jd jh) U M U7 M7→Hm U7 M7 jc jd jh c7 (k+3)→Xm U7 M7 jc jd jh c7 X7→(∀ a,c7.2.2.A=some a→c.2.2.A=some a∨M.nb.size≤a.block / 2)→
      A78_4 (some ⟨2*jc,0,none⟩) (some ⟨2*jh,0,none⟩) 0 M7 fun u N=>u=.tuple #[]∧∃ U' c' X',FiltT c X c' X'∧Ext (Pj jc jd jh) U M U' N∧Hm U' N jc jd jh c' k∧Xm U' N jc jd jh c' X'∧∀ a,c'.2.2.A=some a→c.2.2.A=some a∨M.nb.size≤a.block / 2:=by
    intro U7 M7 c7 X7 hT E7 H7 hX7 hA
    refine e78_4 H7 fun U' N c8 c9 c' h8 h9 h' E' H'=>⟨rfl,U',c',X7,⟨c1,h1,c2,h2,c3,h3,c4,h4,c5,h5,c6,h6,c7,hT,c8,h8,c9,h9,h'⟩,E7.trans E',H',hX7.ext E' ?_ ?_,?_⟩
    · have q8:c8.2.2.n=c7.2.2.n:=by rw [h8]; rfl
      have q9:c9.2.2.n=c8.2.2.n:=by rw [h9]; rfl
      have q:c'.2.2.n=c9.2.2.n:=by rw [h']; rfl
      rw [q,q9,q8]
    · have q8:c8.2.2.A=c7.2.2.A:=by rw [h8]; rfl
      have q9:c9.2.2.A=c8.2.2.A:=by rw [h9]; rfl
      have q:c'.2.2.A=c9.2.2.A:=by rw [h']; rfl
      rw [q,q9,q8]
    · have q8:c8.2.2.A=c7.2.2.A:=by rw [h8]; rfl
      have q9:c9.2.2.A=c8.2.2.A:=by rw [h9]; rfl
      have q:c'.2.2.A=c9.2.2.A:=by rw [h']; rfl
      rw [q,q9,q8]; exact hA
  have no:¬ (c6.2.2.cd=true∧c6.2.1=0)→A78_2 (some ⟨2*jc,0,none⟩) (some ⟨2*jh,0,none⟩) false N6 fun u N=>u=.tuple #[]∧∃ U' c' X',FiltT c X c' X'∧Ext (Pj jc jd jh) U M U' N∧Hm U' N jc jd jh c' k∧Xm U' N jc jd jh c' X'∧∀ a,c'.2.2.A=some a→c.2.2.A=some a∨M.nb.size≤a.block / 2:=fun hh=>
    w78_2 (cF rfl (fin (by rw [if_neg hh]; exact ⟨rfl,rfl⟩) E6 ⟨H6.st.mono (by omega),H6.hd,H6.nu,H6.n1,H6.n2,H6.fl⟩ X6 fun a ha=>.inl (A6 ▸ ha)))
  refine cn (fun hcd=>ad rfl (on (int_of H6.st.cod rfl) ?_)) fun hcd=>no fun hh=>by rw [hcd] at hh; cases hh.1
  by_cases he:¬ c6.2.1=0
  · rw [show (((c6.2.1:Nat):Int) == 0)=false by simpa using he]
    exact no fun hh=>he hh.2
  have he:c6.2.1=0:=by omega
  rw [show (((c6.2.1:Nat):Int) == 0)=true by rw [he]; rfl]
  have hT:∀ {c7:Cd} {X7:List Sg},StrT c6 X c7 X7→(if c6.2.2.cd=true∧c6.2.1=0 then StrT c6 X c7 X7 else c7=c6∧X7=X):=fun h=>by rw [if_pos ⟨hcd,he⟩]; exact h
  refine w78_2 (cT rfl (ad rfl (nK E6 H6 rfl (by decide) (by decide) (fun x=>{ c6.2.2 with da:=x }) (fun _=>rfl) fun Ua Na ca ha Ea Ha=>ad rfl (nK Ea Ha rfl (by decide) (by decide) (fun x=>{ ca.2.2 with cb:=x }) (fun _=>rfl) fun Ub Nb cb hcb Eb Hb=>?_))))
  have ga:ca.2.2.n=c6.2.2.n∧ca.2.2.A=c6.2.2.A:=by rw [ha]; exact ⟨rfl,rfl⟩
  have gb:cb.2.2.n=ca.2.2.n∧cb.2.2.A=ca.2.2.A:=by rw [hcb]; exact ⟨rfl,rfl⟩
  have nb6:cb.2.2.n=c6.2.2.n:=gb.1.trans ga.1
  have Ab6:cb.2.2.A=c6.2.2.A:=gb.2.trans ga.2
  have Xb:Xm Ub Nb jc jd jh cb X:=hX.ext Eb (nb6.trans n6) (Ab6.trans A6)
  have hn8:cb.2.2.n≤8:=by rw [Xb.n]; exact hb
  have nh:jh≠jc∧jh≠jd:=⟨Hb.n2,Hb.n1⟩
  rcases dkind (d:=cb.1) with ⟨l,hd⟩ | ⟨b,p,hd⟩
  · -- a writer
    have S:=Hb.st
    rw [hd] at S
    refine ad rfl (on (ptr_of S.cod rfl) (cF rfl (w78_3 (cF rfl (ad rfl (on (sl_of Hb.hd rfl) ?_))))))
    refine e78_5w (X:=X) (l:=l) nh (by omega) Xb.n cb.2.2.n 0 (k+3) (by omega) (S.mono (by omega)) Hb.nu Hb.hd Xb.row Xb.far fun U' N l' hl' ⟨E',S',nU',a',hn',R',F'⟩=>?_
    obtain ⟨q1,_⟩:=sgsD_w X l cb.2.1
    simp only [List.drop_zero] at hl' S'
    refine fin (c7:=(.w l',(sgsD (.w l) cb.2.1 X).2.1,cb.2.2)) (X7:=X) (hT ⟨ca,ha,cb,hcb,cb,X,?_,?_,?_⟩) (Eb.trans E') ⟨S',a',nU',Hb.n1,Hb.n2,by rw [E'.chg.floor]; exact Hb.fl⟩ ⟨hn',R',F'⟩ fun a haa=>.inl (by rw [← A6,← Ab6]; exact haa)
    · rw [hd]; exact ⟨rfl,rfl⟩
    · rw [hd,← hl']
    · rw [hd,q1]
  · -- a reader
    have hX0:X=[]:=by
      refine r6 b ?_ ?_
      · exact (match c6.1 with | .r _ p=>p | _=>0)
      · rcases dkind (d:=c6.1) with ⟨l,hl⟩ | ⟨b0,p0,hl⟩
        · exfalso
          obtain ⟨l1,k1⟩:=(numD_kind (e:=c6.2.1) (v:=c6.2.2.da) (n:=2) (f:=3)).1 _ hl
          have g1:ca.1=.w l1:=by rw [ha]; exact k1
          obtain ⟨l2,k2⟩:=(numD_kind (e:=ca.2.1) (v:=ca.2.2.cb) (n:=2) (f:=0)).1 _ g1
          have g2:cb.1=.w l2:=by rw [hcb]; exact k2
          rw [g2] at hd; cases hd
        · obtain ⟨p1,k1⟩:=(numD_kind (e:=c6.2.1) (v:=c6.2.2.da) (n:=2) (f:=3)).2 _ _ hl
          have g1:ca.1=.r b0 p1:=by rw [ha]; exact k1
          obtain ⟨p2,k2⟩:=(numD_kind (e:=ca.2.1) (v:=ca.2.2.cb) (n:=2) (f:=0)).2 _ _ g1
          have g2:cb.1=.r b0 p2:=by rw [hcb]; exact k2
          rw [g2] at hd; cases hd
          rw [hl]
    have S:=Hb.st
    rw [hd] at S
    refine ad rfl (on (ptr_of S.cod rfl) (cT rfl (ad rfl (on (int_of S.cod rfl) ?_))))
    by_cases h0:¬ cb.2.1=0
    · rw [show (((cb.2.1:Nat):Int) == 0)=false by simpa using h0]
      have hn0:cb.2.2.n=0:=by rw [Xb.n,hX0]; rfl
      refine w78_3 (cF rfl (ad rfl (on (sl_of Hb.hd rfl) (w78_5 (cF (decide_eq_false (by show ¬ (0:Int)<(cb.2.2.n:Int); omega)) ?_)))))
      subst hX0
      refine fin (c7:=cb) (X7:=[]) (hT ⟨ca,ha,cb,hcb,cb,[],?_,?_,rfl⟩) Eb ⟨Hb.st.mono (by omega),Hb.hd,Hb.nu,Hb.n1,Hb.n2,Hb.fl⟩ Xb fun a haa=>.inl (by rw [← A6,← Ab6]; exact haa)
      · rw [hd]; simp only [if_neg h0]; exact ⟨trivial,trivial⟩
      · simp only [sgsD]
    have h0:cb.2.1=0:=by omega
    rw [show (((cb.2.1:Nat):Int) == 0)=true by rw [h0]; rfl]
    have hq:0≤cb.2.2.cb∧cb.2.2.cb≤3:=by
      rcases dkind (d:=ca.1) with ⟨l,hl⟩ | ⟨b0,p0,hl⟩
      · exfalso
        obtain ⟨l2,k2⟩:=(numD_kind (e:=ca.2.1) (v:=ca.2.2.cb) (n:=2) (f:=0)).1 _ hl
        have g2:cb.1=.w l2:=by rw [hcb]; exact k2
        rw [g2] at hd; cases hd
      · have:(numD ca.1 ca.2.1 ca.2.2.cb 2 0).2.1=0:=by rw [hcb] at h0; exact h0
        rw [hl] at this
        obtain ⟨x,x1,x2⟩:=numD_val (by decide) this
        have e:cb.2.2.cb=(numD ca.1 ca.2.1 ca.2.2.cb 2 0).2.2:=by rw [hcb]; rfl
        rw [e,hl,x2]
        have:x<4:=x1
        omega
    obtain ⟨p1,p2⟩:=pow2 hq
    have q3:cb.2.2.cb.toNat≤3:=by omega
    refine w78_3 (cT rfl (ad rfl (on (int_of Hb.hd rfl) (pu (shl_i64 (q:=cb.2.2.cb.toNat) (by omega) (by omega) (by omega)) (ty rfl (me (mk38 cb.2.2.cb.toNat q3) (ty rfl (ad rfl ?_))))))))
    have ax:=Mem.new_at Nb (.cells (Sgs (List.replicate (2 ^ cb.2.2.cb.toNat) ⟨0,0,0,0⟩)).toArray 96)
    have Kx:Keep Nb (Nb.new (.cells (Sgs (List.replicate (2 ^ cb.2.2.cb.toNat) ⟨0,0,0,0⟩)).toArray 96)):=.new _ _
    dsimp only
    generalize Nb.new (.cells (Sgs (List.replicate (2 ^ cb.2.2.cb.toNat) ⟨0,0,0,0⟩)).toArray 96)=Nx at ax Kx ⊢
    have lb1:=lt_of_at Hb.hd
    have lb2:=lt_of_at Hb.st.cod
    have lb3:=Hb.st.dev.lt
    obtain ⟨Ny,py,Cy,sy,ay⟩:=put1 26 (.slice (some ⟨2*Nb.nb.size,0,none⟩) (2 ^ cb.2.2.cb.toNat) (2 ^ cb.2.2.cb.toNat)) (at_keep Hb.hd Kx) (by rw [Kx.floor]; exact Hb.fl) (show 26<30 by decide) rfl
    have axy:=at_chg ax Cy (by omega)
    have Sy:St Ub Ny jc jd cb.1 cb.2.1 (k+42):=((Hb.st.keep Kx).chg Cy fun i _ hu hh=>by
      subst hh
      rcases hu with hu | hu | hu
      · exact Hb.nu hu
      · exact Hb.n1 hu
      · exact Hb.n2 hu).mono (by omega)
    have h8:2 ^ cb.2.2.cb.toNat≤8:=Nat.pow_le_pow_right (n:=2) (by decide) q3
    generalize hcy:({ cb.2.2 with A:=some ⟨2*Nb.nb.size,0,none⟩,n:=2 ^ cb.2.2.cb.toNat,c:=2 ^ cb.2.2.cb.toNat }:Hd)=hy at *
    have ay':Ny.nb[jh]?=some (.cells hy.cs 41):=by rw [ay,← hcy]; rfl
    have hyA:hy.A=some ⟨2*Nb.nb.size,0,none⟩:=by rw [← hcy]
    have hyn:hy.n=2 ^ cb.2.2.cb.toNat:=by rw [← hcy]
    have nUx:¬ Ub Nb.nb.size:=fun hu=>by have:=Hb.st.ub _ hu; omega
    refine pt py (ad rfl (on (sl_of ay' rfl) ?_))
    refine e78_5r (jx:=Nb.nb.size) (X:=List.replicate (2 ^ cb.2.2.cb.toNat) ⟨0,0,0,0⟩) nh ⟨by omega,by omega,by omega⟩ hyA (by omega) hy.n 0 (k+3) (by omega) (by rw [hyn]; simp) (Sy.mono (by omega)) Hb.nu nUx ay' axy (by rw [Cy.floor,Kx.floor]; exact Hb.st.fs) fun U' N X' hX' E' S' nU' nX' a' ax' hn'=>?_
    simp only [List.take_zero,List.nil_append,List.drop_zero] at hX' S'
    have Ex:Ext (Pj jc jd jh) U M U' N:=by
      have E2:Ext (Pj jc jd jh) Ub Nb U' N:=by
        have z1:=Kx.size
        have z2:=Cy.size
        refine ⟨fun i hi=>(E'.sub i hi).imp id fun q=>by omega,⟨(E'.chg.base.trans Cy.base).trans Kx.base,(E'.chg.floor.trans Cy.floor).trans Kx.floor,Nat.le_trans z1 (Nat.le_trans z2 E'.chg.size),fun j hj hs=>?_⟩⟩
        refine ((E'.chg.same j (by omega) fun hh=>?_).trans (Cy.same j (by omega) fun hh=>hs (.inr (.inr (.inr hh))))).trans (Kx.same j hj fun x=>x)
        rcases hh with hh | hh | hh | hh
        · exact hs (.inl hh)
        · exact hs (.inr (.inl hh))
        · exact hs (.inr (.inr (.inl hh)))
        · omega
      exact Eb.trans E2
    refine fin (c7:=((sgsD cb.1 cb.2.1 (List.replicate (2 ^ cb.2.2.cb.toNat) ⟨0,0,0,0⟩)).1,(sgsD cb.1 cb.2.1 (List.replicate (2 ^ cb.2.2.cb.toNat) ⟨0,0,0,0⟩)).2.1,hy)) (X7:=X') (hT ⟨ca,ha,cb,hcb,(cb.1,cb.2.1,hy),List.replicate (2 ^ cb.2.2.cb.toNat) ⟨0,0,0,0⟩,?_,rfl,hX'⟩) Ex ⟨S',a',nU',Hb.n1,Hb.n2,by rw [Ex.chg.floor]; exact H.fl⟩ ⟨hn',?_,?_⟩ ?_
    · rw [hd]; simp only [if_pos h0]; exact ⟨⟨some ⟨2*Nb.nb.size,0,none⟩,2 ^ cb.2.2.cb.toNat,by rw [← hcy,← hd]⟩,trivial⟩
    · show Row N hy.A (Sgs X')
      rw [hyA]
      intro i hi
      refine ⟨_,rfl,?_⟩
      rw [cell_of ax',Nat.zero_add]; simp [hi]
    · show Far U' jc jd jh N hy.A
      rw [hyA]
      intro a haa
      obtain rfl:=Option.some.inj haa
      have:=lt_of_at ax'
      refine .inr ⟨by show 2*Nb.nb.size / 2<_; omega,?_,?_,?_,?_⟩ <;> show _ <;> (try (rw [show 2*Nb.nb.size / 2=Nb.nb.size by omega])) <;> first | exact nX' | omega
    · intro a haa
      have:a=⟨2*Nb.nb.size,0,none⟩:=by
        have h2:hy.A=some a:=haa
        rw [hyA] at h2; exact (Option.some.inj h2).symm
      subst this
      refine .inr ?_
      show M.nb.size≤2*Nb.nb.size / 2
      have:=Eb.chg.size; omega
end
end Go.Zt

/- Layer 20: the program's coding of a header. -/
set_option linter.unusedSimpArgs false
set_option linter.unusedVariables false
set_option maxRecDepth 100000
namespace Go.Zt
open Go Go.Sim Go.Proofs Go.RowKit
theorem Ext.step {P P' U U1 U2:Nat→Prop} {M N1 N1' N2:Mem} (h:Ext P U M U1 N1) (K:Keep N1 N1') (k:Ext P' U1 N1' U2 N2) (hP:∀ i,P' i→P i∨M.nb.size≤i):Ext P U M U2 N2:=by
  have z1:=h.chg.size
  have z2:=K.size
  refine ⟨fun i hi=>(k.sub i hi).elim (h.sub i) fun q=>.inr (by omega),⟨(k.chg.base.trans K.base).trans h.chg.base,(k.chg.floor.trans K.floor).trans h.chg.floor,by have:=k.chg.size; omega,fun j hj hs=>?_⟩⟩
  refine ((k.chg.same j (by omega) fun hh=>?_).trans (K.same j (by omega) fun x=>x)).trans (h.chg.same j hj hs)
  rcases hh with hh | hh
  · rcases h.sub j hh with q | q
    · exact hs (.inl q)
    · omega
  · rcases hP j hh with q | q
    · exact hs (.inr q)
    · omega
theorem LvP.mono {P:Program} [Orc P] {fn:Func} {L:Tm} {stk:List It} {M:Mem} {Q Q':Value→Mem→Prop} (h:LvP P fn L stk M Q) (hQ:∀ v M,Q v M→Q' v M):LvP P fn L stk M Q':=fun T hs hL=>by
  have g:=h T hs hL
  unfold RunI at g ⊢
  split at g <;> exact Reach.mono g hQ
def Dv.isW:Dv→Bool
  | .w _=>true
  | .r _ _=>false
theorem numD_isW (d:Dv) (e:Nat) (v n f:Int):(numD d e v n f).1.isW=d.isW:=by
  unfold numD; split
  · rfl
  · cases d <;> rfl
theorem flagD_isW (d:Dv) (e:Nat) (v:Bool):(flagD d e v).1.isW=d.isW:=numD_isW ..
theorem deltaD_isW (d:Dv) (e:Nat) (v:Int):(deltaD d e v).1.isW=d.isW:=by
  rw [← flagD_isW d e (v != 0)]
  unfold deltaD; split
  · rfl
  · cases (flagD d e (v != 0)).1 <;> rfl
theorem logD_isW (d:Dv) (e:Nat) (v s:Int):(logD d e v s).1.isW=d.isW:=by
  rw [← numD_isW d e v 2 0]
  unfold logD; split <;> rfl
theorem isW_r {d:Dv} (h:d.isW=false):∃ b p,d=.r b p:=by
  cases d with
  | w l=>cases h
  | r b p=>exact ⟨b,p,rfl⟩
def TailT (w e:Int) (c0:Cd) (X0:List Sg) (c:Cd) (X:List Sg):Prop:=
  ∃ c1,c1=dF' c0 c0.2.2.d0 (fun x=>{ c0.2.2 with d0:=x })∧∃ c2,c2=dF' c1 c1.2.2.d1 (fun x=>{ c1.2.2 with d1:=x })∧∃ c3,c3=dF' c2 c2.2.2.d2 (fun x=>{ c2.2.2 with d2:=x })∧
  ∃ c4,c4=dF' c3 c3.2.2.d3 (fun x=>{ c3.2.2 with d3:=x })∧∃ c5,c5=dF' c4 c4.2.2.d4 (fun x=>{ c4.2.2 with d4:=x })∧
  ∃ c6,c6=gF c5 c5.2.2.co (fun x=>{ c5.2.2 with co:=x }) w∧∃ c7,c7=gF c6 c6.2.2.ro (fun x=>{ c6.2.2 with ro:=x }) e∧∃ c8,c8=fF c7 c7.2.2.na (fun x=>{ c7.2.2 with na:=x })∧
  if c8.2.2.less=true then c=c8∧X=X0 else FiltT c8 X0 c X
def RefT (c0 c:Cd):Prop:=
  ∃ c1 t,(if c0.2.2.ke=true then c1=c0∧t=false else
    ∃ c2,c2=nF c0 c0.2.2.r0 (fun x=>{ c0.2.2 with r0:=x }) 3 0∧∃ c3,c3=nF c2 c2.2.2.r1 (fun x=>{ c2.2.2 with r1:=x }) 3 0∧∃ c4,c4=nF c3 c3.2.2.r2 (fun x=>{ c3.2.2 with r2:=x }) 3 0∧
    c1=((flagD c4.1 c4.2.1 (decide (c0.2.2.pr ≥ 0))).1,(flagD c4.1 c4.2.1 (decide (c0.2.2.pr ≥ 0))).2.1,c4.2.2)∧t=(flagD c4.1 c4.2.1 (decide (c0.2.2.pr ≥ 0))).2.2)∧
  if t=true then c=nF c1 c1.2.2.pr (fun x=>{ c1.2.2 with pr:=x }) 3 0 else c=(c1.1,c1.2.1,{ c1.2.2 with pr := -1 })
def HeadT (w e:Int) (c0:Cd) (X0:List Sg) (c:Cd) (X:List Sg):Prop:=
  ∃ c1,c1=fF c0 c0.2.2.ex (fun x=>{ c0.2.2 with ex:=x })∧
  if c1.2.2.ex=true then c=nF c1 c1.2.2.sl (fun x=>{ c1.2.2 with sl:=x }) 3 0∧X=X0 else
  ∃ c2,c2=fF c1 c1.2.2.sh (fun x=>{ c1.2.2 with sh:=x })∧∃ c3,c3=fF c2 c2.2.2.ke (fun x=>{ c2.2.2 with ke:=x })∧∃ c4,c4=nF c3 c3.2.2.rf (fun x=>{ c3.2.2 with rf:=x }) 8 0∧
  ∃ c5,RefT c4 c5∧∃ c6,c6=nF c5 c5.2.2.ba (fun x=>{ c5.2.2 with ba:=x }) 8 0∧TailT w e c6 X0 c X
section
variable {U:Nat→Prop} {M N:Mem} {jc jd jh k i:Nat} {c:Cd} {X:List Sg}
theorem Hm.keep (H:Hm U M jc jd jh c k) (K:Keep M N):Hm U N jc jd jh c k:=⟨H.st.keep K,at_keep H.hd K,H.nu,H.n1,H.n2,by rw [K.floor]; exact H.fl⟩
theorem Hm.mono {k':Nat} (H:Hm U M jc jd jh c k) (h:k'≤k):Hm U M jc jd jh c k':=⟨H.st.mono h,H.hd,H.nu,H.n1,H.n2,H.fl⟩
theorem Hm.put (H:Hm U M jc jd jh c k) {o:Nat} {v:Value} (ho:o<30) (h1:oneCell v=true) {h':Hd} (hs:h'.cs=c.2.2.cs.setIfInBounds o v):
    ∃ N,M.put (2*jh) o v=some N∧Ext (Pj jc jd jh) U M U N∧Hm U N jc jd jh (c.1,c.2.1,h') k:=by
  obtain ⟨N,p,C,s,a⟩:=put1 o v H.hd H.fl ho h1
  refine ⟨N,p,Ext.of C fun i _ hi=>.inr (.inr (.inr hi)),H.st.chg C fun i _ hu hh=>?_,by rw [a,hs],H.nu,H.n1,H.n2,by rw [C.floor]; exact H.fl⟩
  subst hh
  rcases hu with hu | hu | hu
  · exact H.nu hu
  · exact H.n1 hu
  · exact H.n2 hu
def Out (U:Nat→Prop) (M:Mem) (jc jd jh k:Nat) (A0:Option Addr) (T:Cd→List Sg→Prop):Value→Mem→Prop:=fun u N=>
  u=.tuple #[]∧∃ U' c' X',T c' X'∧Ext (Pj jc jd jh) U M U' N∧Hm U' N jc jd jh c' k∧Xm U' N jc jd jh c' X'∧∀ a,c'.2.2.A=some a→A0=some a∨M.nb.size≤a.block / 2
set_option maxHeartbeats 1000000 in
theorem e50_1 {U0:Nat→Prop} {M0:Mem} {w e:Int} {A0:Option Addr} (hw:16≤w∧w≤256) (he:16≤e∧e≤256) (E:Ext (Pj jc jd jh) U0 M0 U M) (H:Hm U M jc jd jh c (k+70)) (hX:Xm U M jc jd jh c X) (hb:X.length≤8)
    (hr:∀ b p,c.1=.r b p→X=[]) (s:M0.nb[i]?=some (.cells #[.int .i64 w,.int .i64 e] 23)) (ns:¬ U0 i∧¬ Pj jc jd jh i) (hA:c.2.2.A=A0):
    A50_1 (some ⟨2*jc,0,none⟩) (some ⟨2*jh,0,none⟩) (some ⟨2*i,0,none⟩) 0 M (Out U0 M0 jc jd jh k A0 (TailT w e c X)):=by
  refine w50_1 (cT (by decide) (ad rfl (ix (x:=⟨2*jh,10,none⟩) (by kernel_rfl) (dK (k:=k+68) .refl H rfl (fun x=>{ c.2.2 with d0:=x }) (fun _=>rfl) fun U1 N1 c1 h1 E1 H1=>?_))))
  refine w50_1 (cT (by decide) (ad rfl (ix (x:=⟨2*jh,11,none⟩) (by kernel_rfl) (dK (k:=k+66) E1 H1 rfl (fun x=>{ c1.2.2 with d1:=x }) (fun _=>rfl) fun U2 N2 c2 h2 E2 H2=>?_))))
  refine w50_1 (cT (by decide) (ad rfl (ix (x:=⟨2*jh,12,none⟩) (by kernel_rfl) (dK (k:=k+64) E2 H2 rfl (fun x=>{ c2.2.2 with d2:=x }) (fun _=>rfl) fun U3 N3 c3 h3 E3 H3=>?_))))
  refine w50_1 (cT (by decide) (ad rfl (ix (x:=⟨2*jh,13,none⟩) (by kernel_rfl) (dK (k:=k+62) E3 H3 rfl (fun x=>{ c3.2.2 with d3:=x }) (fun _=>rfl) fun U4 N4 c4 h4 E4 H4=>?_))))
  refine w50_1 (cT (by decide) (ad rfl (ix (x:=⟨2*jh,14,none⟩) (by kernel_rfl) (dK (k:=k+60) E4 H4 rfl (fun x=>{ c4.2.2 with d4:=x }) (fun _=>rfl) fun U5 N5 c5 h5 E5 H5=>?_))))
  have s5:=(E.trans E5).at s ns.1 ns.2
  refine w50_1 (cF (by decide) (ad rfl (ad rfl (on (int_of s5.1 rfl) (gK (k:=k+59) E5 H5 hw rfl (fun x=>{ c5.2.2 with co:=x }) (fun _=>rfl) fun U6 N6 c6 h6 E6 H6=>?_)))))
  have s6:=(E.trans E6).at s ns.1 ns.2
  refine ad rfl (ad rfl (on (int_of s6.1 rfl) (gK (k:=k+58) E6 H6 he rfl (fun x=>{ c6.2.2 with ro:=x }) (fun _=>rfl) fun U7 N7 c7 h7 E7 H7=>ad rfl (fK (k:=k+57) E7 H7 rfl (fun x=>{ c7.2.2 with na:=x }) (fun _=>rfl) fun U8 N8 c8 h8 E8 H8=>ad rfl (ldA H8.hd rfl (Cn.mono c77 ?_))))))
  rintro _ N9 ⟨rfl,K9⟩
  have q1:c1.2.2.n=c.2.2.n∧c1.2.2.A=c.2.2.A:=by rw [h1]; exact ⟨rfl,rfl⟩
  have q2:c2.2.2.n=c1.2.2.n∧c2.2.2.A=c1.2.2.A:=by rw [h2]; exact ⟨rfl,rfl⟩
  have q3:c3.2.2.n=c2.2.2.n∧c3.2.2.A=c2.2.2.A:=by rw [h3]; exact ⟨rfl,rfl⟩
  have q4:c4.2.2.n=c3.2.2.n∧c4.2.2.A=c3.2.2.A:=by rw [h4]; exact ⟨rfl,rfl⟩
  have q5:c5.2.2.n=c4.2.2.n∧c5.2.2.A=c4.2.2.A:=by rw [h5]; exact ⟨rfl,rfl⟩
  have q6:c6.2.2.n=c5.2.2.n∧c6.2.2.A=c5.2.2.A:=by rw [h6]; exact ⟨rfl,rfl⟩
  have q7:c7.2.2.n=c6.2.2.n∧c7.2.2.A=c6.2.2.A:=by rw [h7]; exact ⟨rfl,rfl⟩
  have q8:c8.2.2.n=c7.2.2.n∧c8.2.2.A=c7.2.2.A:=by rw [h8]; exact ⟨rfl,rfl⟩
  have n8:c8.2.2.n=c.2.2.n:=by rw [q8.1,q7.1,q6.1,q5.1,q4.1,q3.1,q2.1,q1.1]
  have A8:c8.2.2.A=c.2.2.A:=by rw [q8.2,q7.2,q6.2,q5.2,q4.2,q3.2,q2.2,q1.2]
  clear q1 q2 q3 q4 q5 q6 q7 q8
  have E9:Ext (Pj jc jd jh) U M U8 N9:=E8.trans (Ext.of K9 fun i _ h=>h.elim)
  have X9:=hX.ext (c':=c8) E9 n8 A8
  have H9:=H8.keep K9
  have EE:=E.trans E9
  refine ty rfl (cnn (fun hl=>?_) fun hl=>⟨rfl,U8,c8,X,⟨c1,h1,c2,h2,c3,h3,c4,h4,c5,h5,c6,h6,c7,h7,c8,h8,?_⟩,EE,H9.mono (by omega),X9,fun a ha=>.inl (by rw [← hA,← A8]; exact ha)⟩)
  · refine Cn.mono (c78 (k:=k) (H9.mono (by omega)) X9 hb ?_) ?_
    · intro b p hc
      have w8:c8.1.isW=c7.1.isW:=by rw [h8]; exact flagD_isW ..
      have w7:c7.1.isW=c6.1.isW:=by rw [h7]; exact logD_isW ..
      have w6:c6.1.isW=c5.1.isW:=by rw [h6]; exact logD_isW ..
      have w5:c5.1.isW=c4.1.isW:=by rw [h5]; exact deltaD_isW ..
      have w4:c4.1.isW=c3.1.isW:=by rw [h4]; exact deltaD_isW ..
      have w3:c3.1.isW=c2.1.isW:=by rw [h3]; exact deltaD_isW ..
      have w2:c2.1.isW=c1.1.isW:=by rw [h2]; exact deltaD_isW ..
      have w1:c1.1.isW=c.1.isW:=by rw [h1]; exact deltaD_isW ..
      rw [w7,w6,w5,w4,w3,w2,w1,hc] at w8
      obtain ⟨b0,p0,hl0⟩:=isW_r w8.symm
      exact hr _ _ hl0
    · rintro _ N ⟨_,U',c',X',hT,E',H',hX',hN⟩
      refine ⟨rfl,U',c',X',⟨c1,h1,c2,h2,c3,h3,c4,h4,c5,h5,c6,h6,c7,h7,c8,h8,?_⟩,EE.trans E',H',hX',fun a ha=>?_⟩
      · rw [if_neg (by rw [hl]; decide)]; exact hT
      · refine (hN a ha).imp (fun q=>by rw [← hA,← A8]; exact q) fun q=>?_
        have:=EE.chg.size; omega
  · rw [if_pos hl]; exact ⟨rfl,rfl⟩
theorem RefT.keepA {c c':Cd} (h:RefT c c'):c'.2.2.n=c.2.2.n∧c'.2.2.A=c.2.2.A∧c'.1.isW=c.1.isW:=by
  obtain ⟨c1,t,h1,h2⟩:=h
  have g1:c1.2.2.n=c.2.2.n∧c1.2.2.A=c.2.2.A∧c1.1.isW=c.1.isW:=by
    split at h1
    · rw [h1.1]; exact ⟨rfl,rfl,rfl⟩
    · obtain ⟨c2,k2,c3,k3,c4,k4,k5,_⟩:=h1
      have q2:c2.2.2.n=c.2.2.n∧c2.2.2.A=c.2.2.A∧c2.1.isW=c.1.isW:=by rw [k2]; exact ⟨rfl,rfl,numD_isW ..⟩
      have q3:c3.2.2.n=c2.2.2.n∧c3.2.2.A=c2.2.2.A∧c3.1.isW=c2.1.isW:=by rw [k3]; exact ⟨rfl,rfl,numD_isW ..⟩
      have q4:c4.2.2.n=c3.2.2.n∧c4.2.2.A=c3.2.2.A∧c4.1.isW=c3.1.isW:=by rw [k4]; exact ⟨rfl,rfl,numD_isW ..⟩
      have q5:c1.2.2.n=c4.2.2.n∧c1.2.2.A=c4.2.2.A∧c1.1.isW=c4.1.isW:=by rw [k5]; exact ⟨rfl,rfl,flagD_isW ..⟩
      exact ⟨by rw [q5.1,q4.1,q3.1,q2.1],by rw [q5.2.1,q4.2.1,q3.2.1,q2.2.1],by rw [q5.2.2,q4.2.2,q3.2.2,q2.2.2]⟩
  have g2:c'.2.2.n=c1.2.2.n∧c'.2.2.A=c1.2.2.A∧c'.1.isW=c1.1.isW:=by
    split at h2
    · rw [h2]; exact ⟨rfl,rfl,numD_isW ..⟩
    · rw [h2]; exact ⟨rfl,rfl,rfl⟩
  exact ⟨by rw [g2.1,g1.1],by rw [g2.2.1,g1.2.1],by rw [g2.2.2,g1.2.2]⟩
set_option maxHeartbeats 1000000 in
theorem c50 {w e:Int} (hw:16≤w∧w≤256) (he:16≤e∧e≤256) (H:Hm U M jc jd jh c (k+90)) (hX:Xm U M jc jd jh c X) (hb:X.length≤8) (hr:∀ b p,c.1=.r b p→X=[]):
    Cn Try.prog 50 #[PtrB jc,PtrB jh,.agg #[.int .i64 w,.int .i64 e]] M (Out U M jc jd jh k c.2.2.A (HeadT w e c X)):=by
  have ljd:=H.st.dev.lt
  have ljc:=lt_of_at H.st.cod
  have ljh:=lt_of_at H.hd
  have s:=Mem.new_at M (.cells #[.int .i64 w,.int .i64 e] 23)
  have KM:Keep M (M.new (.cells #[.int .i64 w,.int .i64 e] 23)):=.new _ _
  refine w50_0 (ad rfl ?_)
  generalize M.new (.cells #[.int .i64 w,.int .i64 e] 23)=M1 at s KM ⊢
  have ns:¬ U M.nb.size∧¬ Pj jc jd jh M.nb.size:=⟨fun hu=>by have:=H.st.ub _ hu; omega,fun hh=>by omega⟩
  have back:∀ {T:Cd→List Sg→Prop} {u:Value} {N:Mem},Out U M1 jc jd jh k c.2.2.A T u N→Out U M jc jd jh k c.2.2.A T u N:=by
    rintro T u N ⟨hu,U',c',X',hT,E,H,hX,hA⟩
    exact ⟨hu,U',c',X',hT,(Ext.of KM fun i _ h=>h.elim).trans E,H,hX,fun a ha=>(hA a ha).imp id fun q=>Nat.le_trans KM.size q⟩
  have H0:=H.keep KM
  have X0:Xm U M1 jc jd jh c X:=hX.ext (Ext.of KM fun i _ h=>h.elim) rfl rfl
  refine fK (k:=k+89) .refl H0 (o:=0) rfl (fun x=>{ c.2.2 with ex:=x }) (fun _=>rfl) fun U1 N1 c1 h1 E1 H1=>ad rfl (on (bool_of H1.hd rfl) ?_)
  have q1:c1.2.2.n=c.2.2.n∧c1.2.2.A=c.2.2.A∧c1.1.isW=c.1.isW:=by rw [h1]; exact ⟨rfl,rfl,flagD_isW ..⟩
  refine cn (fun hx=>ad rfl (nK (k:=k+88) E1 H1 rfl (by decide) (by decide) (fun x=>{ c1.2.2 with sl:=x }) (fun _=>rfl) fun U2 N2 c2 h2 E2 H2=>back ⟨rfl,U2,c2,X,⟨c1,h1,?_⟩,E2,H2.mono (by omega),?_,?_⟩)) fun hx=>?_
  · rw [if_pos hx]; exact ⟨h2,rfl⟩
  · have q2:c2.2.2.n=c1.2.2.n∧c2.2.2.A=c1.2.2.A:=by rw [h2]; exact ⟨rfl,rfl⟩
    exact X0.ext E2 (by rw [q2.1,q1.1]) (by rw [q2.2,q1.2.1])
  · have q2:c2.2.2.A=c1.2.2.A:=by rw [h2]; rfl
    intro a ha; exact .inl (by rw [← q1.2.1,← q2]; exact ha)
  refine ad rfl (fK (k:=k+88) E1 H1 rfl (fun x=>{ c1.2.2 with sh:=x }) (fun _=>rfl) fun U2 N2 c2 h2 E2 H2=>ad rfl (fK (k:=k+87) E2 H2 rfl (fun x=>{ c2.2.2 with ke:=x }) (fun _=>rfl) fun U3 N3 c3 h3 E3 H3=>ad rfl (nK (k:=k+86) E3 H3 rfl (by decide) (by decide) (fun x=>{ c3.2.2 with rf:=x }) (fun _=>rfl) fun U4 N4 c4 h4 E4 H4=>ad rfl (on (int_of H4.hd rfl) ?_))))
  have q2:c2.2.2.n=c1.2.2.n∧c2.2.2.A=c1.2.2.A∧c2.1.isW=c1.1.isW:=by rw [h2]; exact ⟨rfl,rfl,flagD_isW ..⟩
  have q3:c3.2.2.n=c2.2.2.n∧c3.2.2.A=c2.2.2.A∧c3.1.isW=c2.1.isW:=by rw [h3]; exact ⟨rfl,rfl,flagD_isW ..⟩
  have q4:c4.2.2.n=c3.2.2.n∧c4.2.2.A=c3.2.2.A∧c4.1.isW=c3.1.isW:=by rw [h4]; exact ⟨rfl,rfl,numD_isW ..⟩
  have Q4:c4.2.2.n=c.2.2.n∧c4.2.2.A=c.2.2.A∧c4.1.isW=c.1.isW:=⟨by rw [q4.1,q3.1,q2.1,q1.1],by rw [q4.2.1,q3.2.1,q2.2.1,q1.2.1],by rw [q4.2.2,q3.2.2,q2.2.2,q1.2.2]⟩
  clear q1 q2 q3 q4
  have rest:∀ {U5:Nat→Prop} {N5:Mem} {c5:Cd},RefT c4 c5→Ext (Pj jc jd jh) U M1 U5 N5→Hm U5 N5 jc jd jh c5 (k+71)→
      Cn Try.prog 74 #[PtrB jc,.pointer (some ⟨2*jh,0+9,none⟩),.int .i64 8,.int .i64 0] N5 fun _ N=>A50_1 (some ⟨2*jc,0,none⟩) (some ⟨2*jh,0,none⟩) (some ⟨2*M.nb.size,0,none⟩) 0 N (Out U M jc jd jh k c.2.2.A (HeadT w e c X)):=by
    intro U5 N5 c5 hT E5 H5
    refine nK (k:=k+70) E5 H5 rfl (by decide) (by decide) (fun x=>{ c5.2.2 with ba:=x }) (fun _=>rfl) fun U6 N6 c6 h6 E6 H6=>?_
    have r5:=hT.keepA
    have q6:c6.2.2.n=c5.2.2.n∧c6.2.2.A=c5.2.2.A∧c6.1.isW=c5.1.isW:=by rw [h6]; exact ⟨rfl,rfl,numD_isW ..⟩
    have Q6:c6.2.2.n=c.2.2.n∧c6.2.2.A=c.2.2.A∧c6.1.isW=c.1.isW:=⟨by rw [q6.1,r5.1,Q4.1],by rw [q6.2.1,r5.2.1,Q4.2.1],by rw [q6.2.2,r5.2.2,Q4.2.2]⟩
    have g:=e50_1 (k:=k) (c:=c6) (X:=X) hw he E6 H6 (X0.ext E6 Q6.1 Q6.2.1) hb (fun b p hc=>by
      have h6w:=Q6.2.2
      rw [hc] at h6w
      obtain ⟨b0,p0,hl0⟩:=isW_r h6w.symm
      exact hr _ _ hl0) s ns Q6.2.1
    exact LvP.mono g fun u N ⟨hu,U',c',X',hT',EE,HH,XX,AA⟩=>back ⟨hu,U',c',X',⟨c1,h1,by rw [if_neg (by rw [hx]; decide)]; exact ⟨c2,h2,c3,h3,c4,h4,c5,hT,c6,h6,hT'⟩⟩,EE,HH,XX,AA⟩
  have l4:=H4.st.fs
  have q4d:=H4.st.dev.lt
  have q4c:=lt_of_at H4.st.cod
  have q4h:=lt_of_at H4.hd
  have z4:=E4.chg.size
  have qb:=Mem.new_at N4 (.cells #[.bool false] 4)
  have Kb:Keep N4 (N4.new (.cells #[.bool false] 4)):=.new _ _
  generalize N4.new (.cells #[.bool false] 4)=Nb at qb Kb ⊢
  obtain ⟨M15,p15,C15,s15,u15⟩:=put1 0 (.bool (decide (c4.2.2.pr ≥ 0))) qb (by rw [Kb.floor]; exact l4) (by decide) rfl
  have K15:Keep N4 M15:=Keep.step Kb C15 fun i hi=>by omega
  have H15:=H4.keep K15
  have nU:¬ U4 N4.nb.size:=fun hu=>by have:=H4.st.ub _ hu; omega
  refine pt p15 (ad rfl (on (bool_of H15.hd rfl) (cn (fun hk=>?_) fun hk=>?_)))
  · obtain ⟨M18,p18,C18,s18,u18⟩:=put1 0 (.bool false) u15 (by rw [K15.floor]; exact l4) (by simp) rfl
    have K18:Keep N4 M18:=Keep.step K15 C18 fun i hi=>by omega
    have H18:=H4.keep K18
    obtain ⟨M25,p25,E25,H25⟩:=H18.put (o:=8) (v:=.int .i64 (-1)) (h':={ c4.2.2 with pr := -1 }) (by decide) rfl rfl
    refine pt p18 (on (bool_of u18 rfl) (cF rfl (ad rfl (pt p25 (ad rfl (rest ⟨c4,false,?_,?_⟩ (E4.step K18 E25 fun i hi=>.inl hi) (H25.mono (by omega))))))))
    · rw [if_pos hk]; exact ⟨rfl,rfl⟩
    · rw [if_neg (by decide)]
  · refine w50_2 (cT (by decide) (ad rfl (ix (x:=⟨2*jh,5,none⟩) (by kernel_rfl) (nK (k:=k+85) .refl H15 rfl (by decide) (by decide) (fun x=>{ c4.2.2 with r0:=x }) (fun _=>rfl) fun Ua Na ca ha Ea Ha=>?_))))
    refine w50_2 (cT (by decide) (ad rfl (ix (x:=⟨2*jh,6,none⟩) (by kernel_rfl) (nK (k:=k+84) Ea Ha rfl (by decide) (by decide) (fun x=>{ ca.2.2 with r1:=x }) (fun _=>rfl) fun Uc Nc cc hc Ec Hc=>?_))))
    refine w50_2 (cT (by decide) (ad rfl (ix (x:=⟨2*jh,7,none⟩) (by kernel_rfl) (nK (k:=k+83) Ec Hc rfl (by decide) (by decide) (fun x=>{ cc.2.2 with r2:=x }) (fun _=>rfl) fun Ud Nd cd hd Ed Hd'=>?_))))
    have uD:=Ed.at u15 nU fun hh=>by omega
    refine w50_2 (cF (by decide) (Cn.mono (c73 (k:=k+82) Hd'.st uD.1 (by rw [Ed.chg.floor,K15.floor]; exact l4) (by omega) (by omega) uD.2 (b:=decide (c4.2.2.pr ≥ 0)) rfl) ?_))
    rintro _ Ne ⟨_,Ue,Ee,Se,ue,nue⟩
    have he':=Ee.at Hd'.hd Hd'.nu fun hh=>by have:=Hd'.n1; have:=Hd'.n2; omega
    have He:Hm Ue Ne jc jd jh ((flagD cd.1 cd.2.1 (decide (c4.2.2.pr ≥ 0))).1,(flagD cd.1 cd.2.1 (decide (c4.2.2.pr ≥ 0))).2.1,cd.2.2) (k+82):=⟨Se,he'.1,he'.2,Hd'.n1,Hd'.n2,by rw [Ee.chg.floor]; exact Hd'.fl⟩
    have EE:Ext (Pj jc jd jh) U M1 Ue Ne:=(E4.step K15 Ed fun i hi=>.inl hi).step (.refl _) Ee fun i hi=>by
      rcases hi with hi | hi | hi
      · exact .inl (.inl hi)
      · exact .inl (.inr (.inl hi))
      · exact .inr (by omega)
    refine ad rfl (on (bool_of ue rfl) (cn (fun ht=>ad rfl (nK (k:=k+81) EE He rfl (by decide) (by decide) (fun x=>{ cd.2.2 with pr:=x }) (fun _=>rfl) fun Uf Nf cf hf Ef Hf=>ad rfl (rest ⟨((flagD cd.1 cd.2.1 (decide (c4.2.2.pr ≥ 0))).1,(flagD cd.1 cd.2.1 (decide (c4.2.2.pr ≥ 0))).2.1,cd.2.2),true,?_,?_⟩ Ef (Hf.mono (by omega))))) fun ht=>?_))
    · rw [if_neg (by rw [hk]; decide)]; exact ⟨ca,ha,cc,hc,cd,hd,rfl,ht.symm⟩
    · rw [if_pos rfl]; exact hf
    · obtain ⟨M25,p25,E25,H25⟩:=He.put (o:=8) (v:=.int .i64 (-1)) (h':={ cd.2.2 with pr := -1 }) (by decide) rfl rfl
      refine ad rfl (pt p25 (ad rfl (rest ⟨((flagD cd.1 cd.2.1 (decide (c4.2.2.pr ≥ 0))).1,(flagD cd.1 cd.2.1 (decide (c4.2.2.pr ≥ 0))).2.1,cd.2.2),false,?_,?_⟩ (EE.trans E25) (H25.mono (by omega)))))
      · rw [if_neg (by rw [hk]; decide)]; exact ⟨ca,ha,cc,hc,cd,hd,rfl,ht.symm⟩
      · rw [if_neg (by decide)]
end
end Go.Zt

/- Layer 20: the bits of a header; what a writer that is handed a header that may be writes. -/
set_option linter.unusedSimpArgs false
set_option linter.unusedVariables false
set_option maxRecDepth 100000
namespace Go.Zt
open Go Go.Sim Go.Proofs Go.RowKit
def yes (b:Bool):Nat:=if b then 1 else 0
def bI (v:Int) (n:Nat):List Nat:=bitsN v.toNat n
def dBits (v:Int):List Nat:=yes (v != 0)::(if v != 0 then yes (decide (v<0))::bitsN v.natAbs 5 else [])
def sBits (x:Sg):List Nat:=bI x.a 4 ++ bI x.b 2 ++ bI x.c 4 ++ bI x.d 2
def rBits (h:Hd):List Nat:=if h.ke then [] else bI h.r0 3 ++ bI h.r1 3 ++ bI h.r2 3 ++ [yes (decide (h.pr ≥ 0))] ++ (if h.pr ≥ 0 then bI h.pr 3 else [])
def fBits (h:Hd) (X:List Sg):List Nat:=bI h.l0 6 ++ bI h.l1 6 ++ bI h.l2 6 ++ bI h.l3 6 ++ bI h.sp 3 ++ [yes h.cd] ++ (if h.cd then bI (h.da - 3) 2 ++ bI h.cb 2 ++ X.flatMap sBits else []) ++ [yes h.x0] ++ [yes h.x1] ++ [yes h.x2]
def tBits (h:Hd) (X:List Sg):List Nat:=dBits h.d0 ++ dBits h.d1 ++ dBits h.d2 ++ dBits h.d3 ++ dBits h.d4 ++ bI h.co 2 ++ bI h.ro 2 ++ [yes h.na] ++ (if h.less then [] else fBits h X)
def hBits (h:Hd) (X:List Sg):List Nat:=[yes h.ex] ++ (if h.ex then bI h.sl 3 else [yes h.sh] ++ [yes h.ke] ++ bI h.rf 8 ++ rBits h ++ bI h.ba 8 ++ tBits h X)
theorem numD_w {l:List Nat} {v f:Int} {n:Nat} (hn:n≤32) (h0:0≤v - f) (h1:v - f<((2 ^ n:Nat):Int)):numD (.w l) 0 v n f=(.w (l ++ bI (v - f) n),0,v):=by
  have hp:2 ^ n≤4294967296:=pow32 hn
  have e1:IntKind.i64.wrap (v - f)=v - f:=i64w (by omega)
  have e2:toU (v - f)=(v - f).toNat:=by unfold toU; omega
  have e3:wFixed l (v - f).toNat n=(0,l ++ bitsN (v - f).toNat n):=by unfold wFixed; rw [if_neg (by rw [Int.toNat_natCast]; omega)]; rfl
  unfold numD
  rw [if_neg (by decide)]
  simp only [e1,e2,e3,bI]
theorem flagD_w {l:List Nat} {b:Bool}:flagD (.w l) 0 b=(.w (l ++ [yes b]),0,b):=by
  cases b
  · have:=numD_w (l:=l) (v:=0) (f:=0) (n:=1) (by decide) (by decide) (by decide)
    unfold flagD; simp only [Bool.false_eq_true,if_false]
    rw [show ((1:Nat):Int)=1 from rfl] at this
    rw [this]; rfl
  · have:=numD_w (l:=l) (v:=1) (f:=0) (n:=1) (by decide) (by decide) (by decide)
    unfold flagD; simp only [if_true]
    rw [show ((1:Nat):Int)=1 from rfl] at this
    rw [this]; rfl
theorem deltaD_w {l:List Nat} {v:Int} (hv : -31≤v∧v≤31):deltaD (.w l) 0 v=(.w (l ++ dBits v),0,v):=by
  unfold deltaD
  rw [flagD_w]
  by_cases h0:v=0
  · subst h0; rfl
  · have hb:(v != 0)=true:=by simpa using h0
    have e1:IntKind.i32.wrap v=v:=i32w (by omega)
    have e2:∀ l,wSigned l v 5=(0,l ++ (if v<0 then 1 else 0)::bitsN v.natAbs 5):=fun l=>by
      unfold wSigned
      rw [if_neg (by rw [show (5:Int).toNat=5 from rfl]; omega)]; rfl
    rw [hb]
    simp only [Bool.true_eq_false,ne_eq,not_true_eq_false,or_self,if_false,e1,e2]
    unfold dBits
    rw [hb]
    by_cases hn:v<0
    · simp [hn,yes]
    · simp [hn,yes]
theorem logD_w {l:List Nat} {v s:Int} (hv:logM v s=true):logD (.w l) 0 v s=(.w (l ++ bI v 2),0,v):=by
  have h2:=of_decide_eq_true hv
  have:=numD_w (l:=l) (v:=v) (f:=0) (n:=2) (by decide) (by omega) (by show v - 0<4; omega)
  rw [show ((2:Nat):Int)=2 from rfl,Int.sub_zero] at this
  unfold logD
  rw [this]
  simp only [hv]
  rfl
section
variable {l:List Nat} {h:Hd} {X:List Sg}
theorem nFw {v f:Int} {n:Nat} {s:Int→Hd} (hn:n≤32) (h0:0≤v - f) (h1:v - f<((2 ^ n:Nat):Int)) (hs:s v=h):nF (.w l,0,h) v s n f=(.w (l ++ bI (v - f) n),0,h):=by
  unfold nF; simp only [numD_w hn h0 h1,hs]
theorem nFw0 {v:Int} {n:Nat} {s:Int→Hd} (hn:n≤32) (h0:0≤v) (h1:v<((2 ^ n:Nat):Int)) (hs:s v=h):nF (.w l,0,h) v s n 0=(.w (l ++ bI v n),0,h):=by
  have:=nFw (l:=l) (h:=h) (v:=v) (f:=0) (n:=n) (s:=s) hn (by omega) (by omega) hs
  rw [Int.sub_zero] at this; exact this
theorem fFw {v:Bool} {s:Bool→Hd} (hs:s v=h):fF (.w l,0,h) v s=(.w (l ++ [yes v]),0,h):=by
  unfold fF; simp only [flagD_w,hs]
theorem dFw {v:Int} {s:Int→Hd} (hv : -31≤v∧v≤31) (hs:s v=h):dF' (.w l,0,h) v s=(.w (l ++ dBits v),0,h):=by
  unfold dF'; simp only [deltaD_w hv,hs]
theorem gFw {v z:Int} {s:Int→Hd} (hv:logM v z=true) (hs:s v=h):gF (.w l,0,h) v s z=(.w (l ++ bI v 2),0,h):=by
  unfold gF; simp only [logD_w hv,hs]
theorem numD_w0 {v:Int} {n:Nat} (hn:n≤32) (h0:0≤v) (h1:v<((2 ^ n:Nat):Int)):numD (.w l) 0 v n 0=(.w (l ++ bI v n),0,v):=by
  have:=numD_w (l:=l) (v:=v) (f:=0) (n:=n) hn (by omega) (by omega)
  rw [Int.sub_zero] at this; exact this
theorem sg1_w {x:Sg} (hx:x.may=true):sg1 (.w l) 0 x=(.w (l ++ sBits x),0,x):=by
  have:=of_decide_eq_true hx
  unfold sg1
  have a1:numD (.w l) 0 x.a 4 0=_:=numD_w0 (l:=l) (v:=x.a) (n:=4) (by decide) (by omega) (by show x.a<16; omega)
  simp only [a1]
  have a2:∀ l,numD (.w l) 0 x.b 2 0=_:=fun l=>numD_w0 (l:=l) (v:=x.b) (n:=2) (by decide) (by omega) (by show x.b<4; omega)
  simp only [a2]
  have a3:∀ l,numD (.w l) 0 x.c 4 0=_:=fun l=>numD_w0 (l:=l) (v:=x.c) (n:=4) (by decide) (by omega) (by show x.c<16; omega)
  simp only [a3]
  have a4:∀ l,numD (.w l) 0 x.d 2 0=_:=fun l=>numD_w0 (l:=l) (v:=x.d) (n:=2) (by decide) (by omega) (by show x.d<4; omega)
  simp only [a4]
  unfold sBits
  simp only [List.append_assoc]
theorem sgsD_wb:∀ (X:List Sg) (l:List Nat),X.all Sg.may=true→sgsD (.w l) 0 X=(.w (l ++ X.flatMap sBits),0,X)
  | [],l,_=>by simp [sgsD]
  | x::X,l,hX=>by
    simp only [List.all_cons,Bool.and_eq_true] at hX
    simp only [sgsD,sg1_w hX.1,sgsD_wb X _ hX.2,List.flatMap_cons,List.append_assoc]
theorem FiltT_w {c:Cd} {X':List Sg} (hm:h.mayF X=true) (hl:h.less=false) (ht:FiltT (.w l,0,h) X c X'):c=(.w (l ++ fBits h X),0,h)∧X'=X:=by
  unfold Hd.mayF at hm
  rw [hl] at hm
  simp only [Bool.false_eq_true,if_false,Bool.and_eq_true,decide_eq_true_eq] at hm
  obtain ⟨⟨ms,mc,m0,m1,m2,m3⟩,mX⟩:=hm
  obtain ⟨c1,h1,c2,h2,c3,h3,c4,h4,c5,h5,c6,h6,c7,h7,c8,h8,c9,h9,h10⟩:=ht
  have g1:=h1.trans (nFw0 (n:=6) (by decide) m0.1 (by show h.l0<64; omega) rfl); clear h1; subst g1
  have g2:=h2.trans (nFw0 (n:=6) (by decide) m1.1 (by show h.l1<64; omega) rfl); clear h2; subst g2
  have g3:=h3.trans (nFw0 (n:=6) (by decide) m2.1 (by show h.l2<64; omega) rfl); clear h3; subst g3
  have g4:=h4.trans (nFw0 (n:=6) (by decide) m3.1 (by show h.l3<64; omega) rfl); clear h4; subst g4
  have g5:=h5.trans (nFw0 (n:=3) (by decide) ms.1 (by show h.sp<8; omega) rfl); clear h5; subst g5
  have g6:=h6.trans (fFw rfl); clear h6; subst g6
  have g7:c7=(.w (l ++ bI h.l0 6 ++ bI h.l1 6 ++ bI h.l2 6 ++ bI h.l3 6 ++ bI h.sp 3 ++ [yes h.cd] ++ (if h.cd then bI (h.da - 3) 2 ++ bI h.cb 2 ++ X.flatMap sBits else [])),0,h)∧X'=X:=by
    split at h7
    · rename_i hq
      have hc:h.cd=true:=hq.1
      rw [if_pos hc]
      rw [if_pos hc] at mc
      obtain ⟨a1,k1,a2,k2,a3,Y,k3,k4,k5⟩:=h7
      have q1:=k1.trans (nFw (n:=2) (f:=3) (by decide) (show 0≤h.da - 3 by omega) (by show h.da - 3<4; omega) rfl); clear k1; subst q1
      have q2:=k2.trans (nFw0 (n:=2) (by decide) mc.2.1.1 (by show h.cb<4; omega) rfl); clear k2; subst q2
      obtain ⟨k3,rfl⟩:=k3
      subst k3
      simp only [sgsD_wb Y _ mX] at k4 k5
      rw [k4,k5]
      simp only [List.append_assoc,and_self]
    · rename_i hq
      have hc:h.cd=false:=by
        cases hc:h.cd
        · rfl
        · exact absurd ⟨hc,rfl⟩ hq
      rw [h7.1,h7.2]; simp [hc]
  obtain ⟨g7,rfl⟩:=g7
  subst g7
  have g8:=h8.trans (fFw rfl); clear h8; subst g8
  have g9:=h9.trans (fFw rfl); clear h9; subst g9
  have g10:=h10.trans (fFw rfl)
  refine ⟨?_,rfl⟩
  rw [g10]; unfold fBits
  simp only [List.append_assoc]
theorem HeadT_w {c:Cd} {X':List Sg} {w e:Int} (hm:h.may X w e=true) (ht:HeadT w e (.w l,0,h) X c X'):c=(.w (l ++ hBits h X),0,h)∧X'=X:=by
  obtain ⟨c1,h1,ht⟩:=ht
  have g1:=h1.trans (fFw rfl); clear h1; subst g1
  have mS:mayS w e=true:=by unfold Hd.may at hm; simp only [Bool.and_eq_true] at hm; exact hm.1.1.1
  split at ht
  · rename_i hx
    have hx:h.ex=true:=hx
    unfold Hd.may at hm
    simp only [hx,if_true,Bool.and_eq_true,decide_eq_true_eq] at hm
    have sl:=hm.1.1.2.1
    have g2:=ht.1.trans (nFw0 (n:=3) (by decide) sl.1 (by show h.sl<8; omega) rfl)
    refine ⟨?_,ht.2⟩
    rw [g2]; unfold hBits; simp [hx,List.append_assoc]
  · rename_i hx
    have hx:h.ex=false:=by simpa using hx
    obtain ⟨⟨sl,rf,pr,ba⟩,mk,mr,md,mco,mro,mf⟩:=(may_iff hx mS).1 hm
    obtain ⟨c2,h2,c3,h3,c4,h4,c5,h5,c6,h6,ht⟩:=ht
    have g2:=h2.trans (fFw rfl); clear h2; subst g2
    have g3:=h3.trans (fFw rfl); clear h3; subst g3
    have g4:=h4.trans (nFw0 (n:=8) (by decide) rf.1 (by show h.rf<256; omega) rfl); clear h4; subst g4
    have g5:c5=(.w (l ++ [yes h.ex] ++ [yes h.sh] ++ [yes h.ke] ++ bI h.rf 8 ++ rBits h),0,h):=by
      obtain ⟨a1,t,k1,k2⟩:=h5
      unfold rBits
      split at k1
      · rename_i hk
        have hk:h.ke=true:=hk
        obtain ⟨k1,rfl⟩:=k1
        subst k1
        simp only [Bool.false_eq_true,if_false] at k2
        have hp:=(mk hk).2
        rw [k2,if_pos hk,List.append_nil]
        have:({ h with pr := -1 }:Hd)=h:=by rw [← hp]
        rw [this]
      · rename_i hk
        have hk:¬ h.ke=true:=hk
        rw [if_neg hk]
        obtain ⟨b1,q1,b2,q2,b3,q3,q4,q5⟩:=k1
        have p1:=q1.trans (nFw0 (n:=3) (by decide) mr.1.1 (by show h.r0<8; omega) rfl); clear q1; subst p1
        have p2:=q2.trans (nFw0 (n:=3) (by decide) mr.2.1.1 (by show h.r1<8; omega) rfl); clear q2; subst p2
        have p3:=q3.trans (nFw0 (n:=3) (by decide) mr.2.2.1 (by show h.r2<8; omega) rfl); clear q3; subst p3
        simp only [flagD_w] at q4 q5
        subst q4 q5
        by_cases hp:h.pr ≥ 0
        · rw [if_pos (decide_eq_true hp)] at k2
          have p4:=k2.trans (nFw0 (n:=3) (by decide) hp (by show h.pr<8; omega) rfl)
          rw [p4,if_pos hp]; simp only [List.append_assoc]
        · rw [if_neg (by simpa using hp)] at k2
          have hp':h.pr = -1:=by omega
          rw [k2,if_neg hp,List.append_nil]
          have:({ h with pr := -1 }:Hd)=h:=by rw [← hp']
          rw [this]; simp only [List.append_assoc]
    subst g5
    have g6:=h6.trans (nFw0 (n:=8) (by decide) ba.1 (by show h.ba<256; omega) rfl); clear h6; subst g6
    obtain ⟨a1,k1,a2,k2,a3,k3,a4,k4,a5,k5,a6,k6,a7,k7,a8,k8,k9⟩:=ht
    have p1:=k1.trans (dFw md.1 rfl); clear k1; subst p1
    have p2:=k2.trans (dFw md.2.1 rfl); clear k2; subst p2
    have p3:=k3.trans (dFw md.2.2.1 rfl); clear k3; subst p3
    have p4:=k4.trans (dFw md.2.2.2.1 rfl); clear k4; subst p4
    have p5:=k5.trans (dFw md.2.2.2.2 rfl); clear k5; subst p5
    have p6:=k6.trans (gFw mco rfl); clear k6; subst p6
    have p7:=k7.trans (gFw mro rfl); clear k7; subst p7
    have p8:=k8.trans (fFw rfl); clear k8; subst p8
    split at k9
    · rename_i hl
      have hl:h.less=true:=hl
      refine ⟨?_,k9.2⟩
      rw [k9.1]; unfold hBits tBits; simp [hx,hl,List.append_assoc]
    · rename_i hl
      have hl:h.less=false:=by simpa using hl
      obtain ⟨r1,r2⟩:=FiltT_w mf hl k9
      refine ⟨?_,r2⟩
      rw [r1]; unfold hBits tBits; simp [hx,hl,List.append_assoc]
end
end Go.Zt

/- The functions' walks: for each function and each loop a rule of what it comes to. Printed by zw2.py. -/
set_option linter.unusedVariables false
set_option maxRecDepth 100000
namespace Go.Zt
open Go Go.Sim Go.Proofs
def tyZlD0:List Sc:=[.bool,.int .i64,.bool,.bool,.int .i64,.int .i64,.int .i64,.int .i64,.int .i64,.int .i64,.int .i64,.int .i64,.int .i64,.int .i64,.int .i64,.int .i64,.int .i64,.bool,.int .i64,.int .i64,.int .i64,.int .i64,.int .i64,.bool,.int .i64,.int .i64,.sl,.bool,.bool,.bool]
def K24:List (List It × List Nat):=[]
def Z24:List (List Nat × List Nat):=[]
theorem b24:Try.prog.funcs[24]?=some Try.f24∧(Orc.tab Try.prog).lookup 24=none∧Try.f24.body=some (codeOf Try.f24):=⟨by kernel_rfl,by kernel_rfl,by kernel_rfl⟩
theorem w24_0 {x0:Option Addr} {x1:Array Value} {x2_0 x2_1:Int} {M:Mem} {Q:Value→Mem→Prop} (H:
 Cn Try.prog 22 #[.pointer x0,.int .u32 0,.int .i64 0] ((M.new (.cells x1 41)).new (.cells #[.int .i64 x2_0,.int .i64 x2_1] 23)) fun v1' N1'=>
 tyS (asI .i64 v1') fun x2'=>
 cnd (x2' != 0) (
 Q (.int .i64 (x2')) N1') (
 ldP tyZlD0 N1' (2*M.nb.size) 0 fun vs3'=>
 onS (N1'.intAt .i64 (2*(M.new (.cells x1 41)).nb.size) 0) fun x4'=>
 onS (N1'.intAt .i64 (2*(M.new (.cells x1 41)).nb.size) (0+1)) fun x5'=>
 Cn Try.prog 26 #[.agg vs3'.toArray,.agg #[.int .i64 x4',.int .i64 x5']] N1' fun v6' N6'=>
 tyS (asI .i64 v6') fun x7'=>
 cnd (x7' != 0) (
 Q (.int .i64 (x7')) N6') (
 onS ((N6'.new (.cells #[.pointer x0,.pointer none,.int .i64 0] 89)).intAt .i64 (2*(M.new (.cells x1 41)).nb.size) 0) fun x8'=>
 onS ((N6'.new (.cells #[.pointer x0,.pointer none,.int .i64 0] 89)).intAt .i64 (2*(M.new (.cells x1 41)).nb.size) (0+1)) fun x9'=>
 Cn Try.prog 50 #[.pointer (some ⟨2*N6'.nb.size,0,none⟩),.pointer (some ⟨2*M.nb.size,0,none⟩),.agg #[.int .i64 x8',.int .i64 x9']] (N6'.new (.cells #[.pointer x0,.pointer none,.int .i64 0] 89)) fun v10' N10'=>
 onS (N10'.intAt .i64 (2*N6'.nb.size) (0+2)) fun x11'=>
 Q (.int .i64 (x11')) N10'))):
 Cn Try.prog 24 #[.pointer x0,.agg x1,.agg #[.int .i64 x2_0,.int .i64 x2_1]] M Q:=
 Cn.mk (cuts:=K24) (sp:=Z24) 900 b24 rfl rfl H fun G=>by kernel_rfl
def K35:List (List It × List Nat):=[]
def Z35:List (List Nat × List Nat):=[]
theorem b35:Try.prog.funcs[35]?=some Try.f35∧(Orc.tab Try.prog).lookup 35=none∧Try.f35.body=some (codeOf Try.f35):=⟨by kernel_rfl,by kernel_rfl,by kernel_rfl⟩
theorem w35_0 {x0:Option Addr} {x1_0 x1_1:Int} {M:Mem} {Q:Value→Mem→Prop} (H:
 Cn Try.prog 33 #[.pointer x0,.int .i64 0] ((M.new (.cells #[.int .i64 x1_0,.int .i64 x1_1] 23)).new (.cells #[.bool false,.int .i64 0,.bool false,.bool false,.int .i64 0,.int .i64 0,.int .i64 0,.int .i64 0,.int .i64 0,.int .i64 0,.int .i64 0,.int .i64 0,.int .i64 0,.int .i64 0,.int .i64 0,.int .i64 0,.int .i64 0,.bool false,.int .i64 0,.int .i64 0,.int .i64 0,.int .i64 0,.int .i64 0,.bool false,.int .i64 0,.int .i64 0,.slice none 0 0,.bool false,.bool false,.bool false] 41)) fun v1' N1'=>
 tyS (asU 2 v1') fun cs2'=>
 tyS (asI .u32 (cs2'.getD 0 undef)) fun x3'=>
 tyS (asI .i64 (cs2'.getD 1 undef)) fun x4'=>
 cnd (x4' != 0) (
 stP (some 30) #[.bool false,.int .i64 0,.bool false,.bool false,.int .i64 0,.int .i64 0,.int .i64 0,.int .i64 0,.int .i64 0,.int .i64 0,.int .i64 0,.int .i64 0,.int .i64 0,.int .i64 0,.int .i64 0,.int .i64 0,.int .i64 0,.bool false,.int .i64 0,.int .i64 0,.int .i64 0,.int .i64 0,.int .i64 0,.bool false,.int .i64 0,.int .i64 0,.slice none 0 0,.bool false,.bool false,.bool false] N1' (2*(M.new (.cells #[.int .i64 x1_0,.int .i64 x1_1] 23)).nb.size) 0 fun M5'=>
 ldP tyZlD0 M5' (2*(M.new (.cells #[.int .i64 x1_0,.int .i64 x1_1] 23)).nb.size) 0 fun vs6'=>
 Q (.tuple #[.agg vs6'.toArray,.int .i64 (x4')]) M5') (
 onS (N1'.intAt .i64 (2*M.nb.size) 0) fun x7'=>
 onS (N1'.intAt .i64 (2*M.nb.size) (0+1)) fun x8'=>
 Cn Try.prog 14 #[.agg #[.int .i64 x7',.int .i64 x8']] N1' fun v9' N9'=>
 tyS (asI .i64 v9') fun x10'=>
 cnd (x10' != 0) (
 stP (some 30) #[.bool false,.int .i64 0,.bool false,.bool false,.int .i64 0,.int .i64 0,.int .i64 0,.int .i64 0,.int .i64 0,.int .i64 0,.int .i64 0,.int .i64 0,.int .i64 0,.int .i64 0,.int .i64 0,.int .i64 0,.int .i64 0,.bool false,.int .i64 0,.int .i64 0,.int .i64 0,.int .i64 0,.int .i64 0,.bool false,.int .i64 0,.int .i64 0,.slice none 0 0,.bool false,.bool false,.bool false] N9' (2*(M.new (.cells #[.int .i64 x1_0,.int .i64 x1_1] 23)).nb.size) 0 fun M11'=>
 ldP tyZlD0 M11' (2*(M.new (.cells #[.int .i64 x1_0,.int .i64 x1_1] 23)).nb.size) 0 fun vs12'=>
 Q (.tuple #[.agg vs12'.toArray,.int .i64 (x10')]) M11') (
 onS (((N9'.new (.cells #[.bool false,.int .i64 0,.bool false,.bool false,.int .i64 0,.int .i64 0,.int .i64 0,.int .i64 0,.int .i64 0,.int .i64 0,.int .i64 0,.int .i64 0,.int .i64 0,.int .i64 0,.int .i64 0,.int .i64 0,.int .i64 0,.bool false,.int .i64 0,.int .i64 0,.int .i64 0,.int .i64 0,.int .i64 0,.bool false,.int .i64 0,.int .i64 0,.slice none 0 0,.bool false,.bool false,.bool false] 41)).new (.cells #[.pointer none,.pointer x0,.int .i64 0] 89)).intAt .i64 (2*M.nb.size) 0) fun x13'=>
 onS (((N9'.new (.cells #[.bool false,.int .i64 0,.bool false,.bool false,.int .i64 0,.int .i64 0,.int .i64 0,.int .i64 0,.int .i64 0,.int .i64 0,.int .i64 0,.int .i64 0,.int .i64 0,.int .i64 0,.int .i64 0,.int .i64 0,.int .i64 0,.bool false,.int .i64 0,.int .i64 0,.int .i64 0,.int .i64 0,.int .i64 0,.bool false,.int .i64 0,.int .i64 0,.slice none 0 0,.bool false,.bool false,.bool false] 41)).new (.cells #[.pointer none,.pointer x0,.int .i64 0] 89)).intAt .i64 (2*M.nb.size) (0+1)) fun x14'=>
 Cn Try.prog 50 #[.pointer (some ⟨2*(N9'.new (.cells #[.bool false,.int .i64 0,.bool false,.bool false,.int .i64 0,.int .i64 0,.int .i64 0,.int .i64 0,.int .i64 0,.int .i64 0,.int .i64 0,.int .i64 0,.int .i64 0,.int .i64 0,.int .i64 0,.int .i64 0,.int .i64 0,.bool false,.int .i64 0,.int .i64 0,.int .i64 0,.int .i64 0,.int .i64 0,.bool false,.int .i64 0,.int .i64 0,.slice none 0 0,.bool false,.bool false,.bool false] 41)).nb.size,0,none⟩),.pointer (some ⟨2*N9'.nb.size,0,none⟩),.agg #[.int .i64 x13',.int .i64 x14']] ((N9'.new (.cells #[.bool false,.int .i64 0,.bool false,.bool false,.int .i64 0,.int .i64 0,.int .i64 0,.int .i64 0,.int .i64 0,.int .i64 0,.int .i64 0,.int .i64 0,.int .i64 0,.int .i64 0,.int .i64 0,.int .i64 0,.int .i64 0,.bool false,.int .i64 0,.int .i64 0,.int .i64 0,.int .i64 0,.int .i64 0,.bool false,.int .i64 0,.int .i64 0,.slice none 0 0,.bool false,.bool false,.bool false] 41)).new (.cells #[.pointer none,.pointer x0,.int .i64 0] 89)) fun v15' N15'=>
 onS (N15'.intAt .i64 (2*(N9'.new (.cells #[.bool false,.int .i64 0,.bool false,.bool false,.int .i64 0,.int .i64 0,.int .i64 0,.int .i64 0,.int .i64 0,.int .i64 0,.int .i64 0,.int .i64 0,.int .i64 0,.int .i64 0,.int .i64 0,.int .i64 0,.int .i64 0,.bool false,.int .i64 0,.int .i64 0,.int .i64 0,.int .i64 0,.int .i64 0,.bool false,.int .i64 0,.int .i64 0,.slice none 0 0,.bool false,.bool false,.bool false] 41)).nb.size) (0+2)) fun x16'=>
 cnd (x16' != 0) (
 onS (N15'.intAt .i64 (2*(N9'.new (.cells #[.bool false,.int .i64 0,.bool false,.bool false,.int .i64 0,.int .i64 0,.int .i64 0,.int .i64 0,.int .i64 0,.int .i64 0,.int .i64 0,.int .i64 0,.int .i64 0,.int .i64 0,.int .i64 0,.int .i64 0,.int .i64 0,.bool false,.int .i64 0,.int .i64 0,.int .i64 0,.int .i64 0,.int .i64 0,.bool false,.int .i64 0,.int .i64 0,.slice none 0 0,.bool false,.bool false,.bool false] 41)).nb.size) (0+2)) fun x17'=>
 cnd (decide (Option.map (fun a:Addr=>a.block) (some ⟨2*(M.new (.cells #[.int .i64 x1_0,.int .i64 x1_1] 23)).nb.size,0,none⟩)=some (2*(N9'.new (.cells #[.bool false,.int .i64 0,.bool false,.bool false,.int .i64 0,.int .i64 0,.int .i64 0,.int .i64 0,.int .i64 0,.int .i64 0,.int .i64 0,.int .i64 0,.int .i64 0,.int .i64 0,.int .i64 0,.int .i64 0,.int .i64 0,.bool false,.int .i64 0,.int .i64 0,.int .i64 0,.int .i64 0,.int .i64 0,.bool false,.int .i64 0,.int .i64 0,.slice none 0 0,.bool false,.bool false,.bool false] 41)).nb.size))) (
 False) (
 stP (some 30) #[.bool false,.int .i64 0,.bool false,.bool false,.int .i64 0,.int .i64 0,.int .i64 0,.int .i64 0,.int .i64 0,.int .i64 0,.int .i64 0,.int .i64 0,.int .i64 0,.int .i64 0,.int .i64 0,.int .i64 0,.int .i64 0,.bool false,.int .i64 0,.int .i64 0,.int .i64 0,.int .i64 0,.int .i64 0,.bool false,.int .i64 0,.int .i64 0,.slice none 0 0,.bool false,.bool false,.bool false] N15' (2*(M.new (.cells #[.int .i64 x1_0,.int .i64 x1_1] 23)).nb.size) 0 fun M18'=>
 ldP tyZlD0 M18' (2*(M.new (.cells #[.int .i64 x1_0,.int .i64 x1_1] 23)).nb.size) 0 fun vs19'=>
 Q (.tuple #[.agg vs19'.toArray,.int .i64 (x17')]) M18')) (
 ldP tyZlD0 N15' (2*N9'.nb.size) 0 fun vs20'=>
 stP (some 30) vs20'.toArray N15' (2*(M.new (.cells #[.int .i64 x1_0,.int .i64 x1_1] 23)).nb.size) 0 fun M21'=>
 ldP tyZlD0 M21' (2*(M.new (.cells #[.int .i64 x1_0,.int .i64 x1_1] 23)).nb.size) 0 fun vs22'=>
 Q (.tuple #[.agg vs22'.toArray,.int .i64 0]) M21')))):
 Cn Try.prog 35 #[.pointer x0,.agg #[.int .i64 x1_0,.int .i64 x1_1]] M Q:=
 Cn.mk (cuts:=K35) (sp:=Z35) 900 b35 rfl rfl H fun G=>by kernel_rfl
end Go.Zt

/- The functions' walks: for each function and each loop a rule of what it comes to. Printed by zw2.py. -/
set_option linter.unusedVariables false
set_option maxRecDepth 100000
namespace Go.Zt
open Go Go.Sim Go.Proofs
def tyZlE0:List Sc:=[.bool,.int .i64,.bool,.bool,.int .i64,.int .i64,.int .i64,.int .i64,.int .i64,.int .i64,.int .i64,.int .i64,.int .i64,.int .i64,.int .i64,.int .i64,.int .i64,.bool,.int .i64,.int .i64,.int .i64,.int .i64,.int .i64,.bool,.int .i64,.int .i64,.sl,.bool,.bool,.bool]
def K25:List (List It × List Nat):=[([.code [1,1,1,1,1,1,1,0,1,0,0,1,0,0],.lp [1,1,1,1,1,1,1,0,1,0,0,1,0,0],.blk 0,.code [1,1,1,1,1,1,1,0,1,0,1],.code [1,1,1,1,1,1,1,1]],[0,4,8]),([.code [1,1,1,1,1,1,1,1,1,0,1,0,0],.lp [1,1,1,1,1,1,1,1,1,0,1,0,0],.blk 2,.code [1,1,1,1,1,1,1,1,1,1]],[0,4,9]),([.code [1,1,1,1,1,1,1,1,1,0,1,0,0,1,1],.lp [1,1,1,1,1,1,1,1,1,0,1,0,0],.blk 2,.code [1,1,1,1,1,1,1,1,1,1]],[0,4,9]),([.code [1,1,1,1,1,1,1,1,1,1,1,1,1,1,0,1,0,0],.lp [1,1,1,1,1,1,1,1,1,1,1,1,1,1,0,1,0,0],.blk 4,.code [1,1,1,1,1,1,1,1,1,1,1,1,1,1,1]],[0,4,10]),([.code [1,1,1,1,1,1,1,1,1,1,1,1,1,1,1,1,1,0,1,0,1,1,1,0,0],.lp [1,1,1,1,1,1,1,1,1,1,1,1,1,1,1,1,1,0,1,0,1,1,1,0,0],.blk 6,.code [1,1,1,1,1,1,1,1,1,1,1,1,1,1,1,1,1,1]],[0,4,11]),([.code [1,1,1,1,1,1,1,1,1,1,1,1,1,1,1,1,1,1,0,1,0,0],.lp [1,1,1,1,1,1,1,1,1,1,1,1,1,1,1,1,1,1,0,1,0,0],.blk 8,.code [1,1,1,1,1,1,1,1,1,1,1,1,1,1,1,1,1,1,1]],[0,4,12])]
def Z25:List (List Nat × List Nat):=[]
theorem b25:Try.prog.funcs[25]?=some Try.f25∧(Orc.tab Try.prog).lookup 25=none∧Try.f25.body=some (codeOf Try.f25):=⟨by kernel_rfl,by kernel_rfl,by kernel_rfl⟩
def A25_1 (x0 x4:Option Addr) (x8:Int) (M:Mem) (Q:Value→Mem→Prop):Prop:=LvP Try.prog Try.f25 [(0,.pointer x0),(4,.pointer x4),(8,.int .i64 x8)] [.code [1,1,1,1,1,1,1,0,1,0,0,1,0,0],.lp [1,1,1,1,1,1,1,0,1,0,0,1,0,0],.blk 0,.code [1,1,1,1,1,1,1,0,1,0,1],.code [1,1,1,1,1,1,1,1]] M Q
def A25_2 (x0 x4:Option Addr) (x9:Int) (M:Mem) (Q:Value→Mem→Prop):Prop:=LvP Try.prog Try.f25 [(0,.pointer x0),(4,.pointer x4),(9,.int .i64 x9)] [.code [1,1,1,1,1,1,1,1,1,0,1,0,0],.lp [1,1,1,1,1,1,1,1,1,0,1,0,0],.blk 2,.code [1,1,1,1,1,1,1,1,1,1]] M Q
def A25_3 (x0 x4:Option Addr) (x9:Int) (M:Mem) (Q:Value→Mem→Prop):Prop:=LvP Try.prog Try.f25 [(0,.pointer x0),(4,.pointer x4),(9,.int .i64 x9)] [.code [1,1,1,1,1,1,1,1,1,0,1,0,0,1,1],.lp [1,1,1,1,1,1,1,1,1,0,1,0,0],.blk 2,.code [1,1,1,1,1,1,1,1,1,1]] M Q
def A25_4 (x0 x4:Option Addr) (x10:Int) (M:Mem) (Q:Value→Mem→Prop):Prop:=LvP Try.prog Try.f25 [(0,.pointer x0),(4,.pointer x4),(10,.int .i64 x10)] [.code [1,1,1,1,1,1,1,1,1,1,1,1,1,1,0,1,0,0],.lp [1,1,1,1,1,1,1,1,1,1,1,1,1,1,0,1,0,0],.blk 4,.code [1,1,1,1,1,1,1,1,1,1,1,1,1,1,1]] M Q
def A25_5 (x0 x4:Option Addr) (x11:Int) (M:Mem) (Q:Value→Mem→Prop):Prop:=LvP Try.prog Try.f25 [(0,.pointer x0),(4,.pointer x4),(11,.int .i64 x11)] [.code [1,1,1,1,1,1,1,1,1,1,1,1,1,1,1,1,1,0,1,0,1,1,1,0,0],.lp [1,1,1,1,1,1,1,1,1,1,1,1,1,1,1,1,1,0,1,0,1,1,1,0,0],.blk 6,.code [1,1,1,1,1,1,1,1,1,1,1,1,1,1,1,1,1,1]] M Q
def A25_6 (x0 x4:Option Addr) (x12:Int) (M:Mem) (Q:Value→Mem→Prop):Prop:=LvP Try.prog Try.f25 [(0,.pointer x0),(4,.pointer x4),(12,.int .i64 x12)] [.code [1,1,1,1,1,1,1,1,1,1,1,1,1,1,1,1,1,1,0,1,0,0],.lp [1,1,1,1,1,1,1,1,1,1,1,1,1,1,1,1,1,1,0,1,0,0],.blk 8,.code [1,1,1,1,1,1,1,1,1,1,1,1,1,1,1,1,1,1,1]] M Q
theorem w25_0 {x0:Option Addr} {x1:Array Value} {x2_0 x2_1:Int} {M:Mem} {Q:Value→Mem→Prop} (H:
 ldP tyZlE0 ((M.new (.cells x1 41)).new (.cells #[.int .i64 x2_0,.int .i64 x2_1] 23)) (2*M.nb.size) 0 fun vs1'=>
 onS (((M.new (.cells x1 41)).new (.cells #[.int .i64 x2_0,.int .i64 x2_1] 23)).intAt .i64 (2*(M.new (.cells x1 41)).nb.size) 0) fun x2'=>
 onS (((M.new (.cells x1 41)).new (.cells #[.int .i64 x2_0,.int .i64 x2_1] 23)).intAt .i64 (2*(M.new (.cells x1 41)).nb.size) (0+1)) fun x3'=>
 Cn Try.prog 27 #[.agg vs1'.toArray,.agg #[.int .i64 x2',.int .i64 x3']] ((M.new (.cells x1 41)).new (.cells #[.int .i64 x2_0,.int .i64 x2_1] 23)) fun v4' N4'=>
 tyS (asI .i64 v4') fun x5'=>
 cnd (x5' != 0) (
 Q (.int .i64 (x5')) N4') (
 onS (N4'.boolAt (2*M.nb.size) 0) fun b6'=>
 Cn Try.prog 52 #[.bool b6'] N4' fun v7' N7'=>
 tyS (asI .i64 v7') fun x8'=>
 Cn Try.prog 51 #[.pointer x0,.int .i64 x8',.int .i64 1] N7' fun v9' N9'=>
 onS (N9'.boolAt (2*M.nb.size) 0) fun b10'=>
 cnd b10' (
 onS (N9'.intAt .i64 (2*M.nb.size) (0+1)) fun x11'=>
 Cn Try.prog 51 #[.pointer x0,.int .i64 x11',.int .i64 3] N9' fun v12' N12'=>
 Q (.int .i64 0) N12') (
 onS (N9'.boolAt (2*M.nb.size) (0+2)) fun b13'=>
 Cn Try.prog 52 #[.bool b13'] N9' fun v14' N14'=>
 tyS (asI .i64 v14') fun x15'=>
 Cn Try.prog 51 #[.pointer x0,.int .i64 x15',.int .i64 1] N14' fun v16' N16'=>
 onS (N16'.boolAt (2*M.nb.size) (0+3)) fun b17'=>
 Cn Try.prog 52 #[.bool b17'] N16' fun v18' N18'=>
 tyS (asI .i64 v18') fun x19'=>
 Cn Try.prog 51 #[.pointer x0,.int .i64 x19',.int .i64 1] N18' fun v20' N20'=>
 onS (N20'.intAt .i64 (2*M.nb.size) (0+4)) fun x21'=>
 Cn Try.prog 51 #[.pointer x0,.int .i64 x21',.int .i64 8] N20' fun v22' N22'=>
 onS (N22'.boolAt (2*M.nb.size) (0+3)) fun b23'=>
 cnd (!b23') (
 A25_1 x0 (some ⟨2*M.nb.size,0,none⟩) 0 N22' Q) (
 onS (N22'.intAt .i64 (2*M.nb.size) (0+9)) fun x24'=>
 Cn Try.prog 51 #[.pointer x0,.int .i64 x24',.int .i64 8] N22' fun v25' N25'=>
 A25_2 x0 (some ⟨2*M.nb.size,0,none⟩) 0 N25' Q)))):
 Cn Try.prog 25 #[.pointer x0,.agg x1,.agg #[.int .i64 x2_0,.int .i64 x2_1]] M Q:=
 Cn.mk (cuts:=K25) (sp:=Z25) 900 b25 rfl rfl H fun G=>by kernel_rfl
theorem w25_1 {x0 x4:Option Addr} {x8:Int} {M:Mem} {Q:Value→Mem→Prop} (H:
 cnd (decide (x8<3)) (
 adS x4 fun a26'=>
 ixS (idxA (some ⟨a26'.block,a26'.off+5,none⟩) 3 1 x8) fun a27'=>
 onS (M.intAt .i64 a27'.block a27'.off) fun x28'=>
 Cn Try.prog 51 #[.pointer x0,.int .i64 x28',.int .i64 3] M fun v29' N29'=>
 A25_1 x0 x4 (IntKind.i64.wrap (x8+1)) N29' Q) (
 adS x4 fun a30'=>
 onS (M.intAt .i64 a30'.block (a30'.off+8)) fun x31'=>
 Cn Try.prog 52 #[.bool (decide (x31' ≥ 0))] M fun v32' N32'=>
 tyS (asI .i64 v32') fun x33'=>
 Cn Try.prog 51 #[.pointer x0,.int .i64 x33',.int .i64 1] N32' fun v34' N34'=>
 adS x4 fun a35'=>
 onS (N34'.intAt .i64 a35'.block (a35'.off+8)) fun x36'=>
 cnd (decide (x36' ≥ 0)) (
 adS x4 fun a37'=>
 onS (N34'.intAt .i64 a37'.block (a37'.off+8)) fun x38'=>
 Cn Try.prog 51 #[.pointer x0,.int .i64 x38',.int .i64 3] N34' fun v39' N39'=>
 adS x4 fun a40'=>
 onS (N39'.intAt .i64 a40'.block (a40'.off+9)) fun x41'=>
 Cn Try.prog 51 #[.pointer x0,.int .i64 x41',.int .i64 8] N39' fun v42' N42'=>
 A25_2 x0 x4 0 N42' Q) (
 adS x4 fun a43'=>
 onS (N34'.intAt .i64 a43'.block (a43'.off+9)) fun x44'=>
 Cn Try.prog 51 #[.pointer x0,.int .i64 x44',.int .i64 8] N34' fun v45' N45'=>
 A25_2 x0 x4 0 N45' Q))):
 A25_1 x0 x4 x8 M Q:=
 LvP.mk (cuts:=K25) (sp:=Z25) 900 H fun G=>by kernel_rfl
theorem w25_2 {x0 x4:Option Addr} {x9:Int} {M:Mem} {Q:Value→Mem→Prop} (H:
 cnd (decide (x9<5)) (
 adS x4 fun a46'=>
 ixS (idxA (some ⟨a46'.block,a46'.off+10,none⟩) 5 1 x9) fun a47'=>
 onS (M.intAt .i64 a47'.block a47'.off) fun x48'=>
 Cn Try.prog 52 #[.bool (x48' != 0)] M fun v49' N49'=>
 tyS (asI .i64 v49') fun x50'=>
 Cn Try.prog 51 #[.pointer x0,.int .i64 x50',.int .i64 1] N49' fun v51' N51'=>
 adS x4 fun a52'=>
 ixS (idxA (some ⟨a52'.block,a52'.off+10,none⟩) 5 1 x9) fun a53'=>
 onS (N51'.intAt .i64 a53'.block a53'.off) fun x54'=>
 cnd (x54' != 0) (
 adS x4 fun a55'=>
 ixS (idxA (some ⟨a55'.block,a55'.off+10,none⟩) 5 1 x9) fun a56'=>
 onS (N51'.intAt .i64 a56'.block a56'.off) fun x57'=>
 Cn Try.prog 53 #[.pointer x0,.int .i32 (IntKind.i32.wrap (x57')),.int .i64 5] N51' fun v58' N58'=>
 tyS (asI .i64 v58') fun x59'=>
 A25_3 x0 x4 x9 N58' Q) (
 A25_3 x0 x4 x9 N51' Q)) (
 adS x4 fun a60'=>
 onS (M.intAt .i64 a60'.block (a60'.off+15)) fun x61'=>
 Cn Try.prog 51 #[.pointer x0,.int .i64 x61',.int .i64 2] M fun v62' N62'=>
 adS x4 fun a63'=>
 onS (N62'.intAt .i64 a63'.block (a63'.off+16)) fun x64'=>
 Cn Try.prog 51 #[.pointer x0,.int .i64 x64',.int .i64 2] N62' fun v65' N65'=>
 adS x4 fun a66'=>
 onS (N65'.boolAt a66'.block (a66'.off+17)) fun b67'=>
 Cn Try.prog 52 #[.bool b67'] N65' fun v68' N68'=>
 tyS (asI .i64 v68') fun x69'=>
 Cn Try.prog 51 #[.pointer x0,.int .i64 x69',.int .i64 1] N68' fun v70' N70'=>
 adS x4 fun a71'=>
 ldP tyZlE0 N70' a71'.block a71'.off fun vs72'=>
 Cn Try.prog 54 #[.agg vs72'.toArray] N70' fun v73' N73'=>
 tyS (asB v73') fun b74'=>
 cnd b74' (
 Q (.int .i64 0) N73') (
 A25_4 x0 x4 0 N73' Q))):
 A25_2 x0 x4 x9 M Q:=
 LvP.mk (cuts:=K25) (sp:=Z25) 900 H fun G=>by kernel_rfl
theorem w25_3 {x0 x4:Option Addr} {x9:Int} {M:Mem} {Q:Value→Mem→Prop} (H:
 A25_2 x0 x4 (IntKind.i64.wrap (x9+1)) M Q):
 A25_3 x0 x4 x9 M Q:=
 LvP.mk (cuts:=K25) (sp:=Z25) 900 H fun G=>by kernel_rfl
theorem w25_4 {x0 x4:Option Addr} {x10:Int} {M:Mem} {Q:Value→Mem→Prop} (H:
 cnd (decide (x10<4)) (
 adS x4 fun a75'=>
 ixS (idxA (some ⟨a75'.block,a75'.off+18,none⟩) 4 1 x10) fun a76'=>
 onS (M.intAt .i64 a76'.block a76'.off) fun x77'=>
 Cn Try.prog 51 #[.pointer x0,.int .i64 x77',.int .i64 6] M fun v78' N78'=>
 A25_4 x0 x4 (IntKind.i64.wrap (x10+1)) N78' Q) (
 adS x4 fun a79'=>
 onS (M.intAt .i64 a79'.block (a79'.off+22)) fun x80'=>
 Cn Try.prog 51 #[.pointer x0,.int .i64 x80',.int .i64 3] M fun v81' N81'=>
 adS x4 fun a82'=>
 onS (N81'.boolAt a82'.block (a82'.off+23)) fun b83'=>
 Cn Try.prog 52 #[.bool b83'] N81' fun v84' N84'=>
 tyS (asI .i64 v84') fun x85'=>
 Cn Try.prog 51 #[.pointer x0,.int .i64 x85',.int .i64 1] N84' fun v86' N86'=>
 adS x4 fun a87'=>
 onS (N86'.boolAt a87'.block (a87'.off+23)) fun b88'=>
 cnd b88' (
 adS x4 fun a89'=>
 onS (N86'.intAt .i64 a89'.block (a89'.off+24)) fun x90'=>
 Cn Try.prog 51 #[.pointer x0,.int .i64 (IntKind.i64.wrap (x90' - 3)),.int .i64 2] N86' fun v91' N91'=>
 adS x4 fun a92'=>
 onS (N91'.intAt .i64 a92'.block (a92'.off+25)) fun x93'=>
 Cn Try.prog 51 #[.pointer x0,.int .i64 x93',.int .i64 2] N91' fun v94' N94'=>
 A25_5 x0 x4 0 N94' Q) (
 A25_6 x0 x4 0 N86' Q))):
 A25_4 x0 x4 x10 M Q:=
 LvP.mk (cuts:=K25) (sp:=Z25) 900 H fun G=>by kernel_rfl
theorem w25_5 {x0 x4:Option Addr} {x11:Int} {M:Mem} {Q:Value→Mem→Prop} (H:
 adS x4 fun a95'=>
 onS (M.slAt a95'.block (a95'.off+26)) fun s96'=>
 cnd (decide (x11<((s96'.2.1:Int)))) (
 adS x4 fun a97'=>
 onS (M.slAt a97'.block (a97'.off+26)) fun s98'=>
 ixS (idxA s98'.1 (s98'.2.1) 4 x11) fun a99'=>
 onS (M.intAt .i64 a99'.block a99'.off) fun x100'=>
 Cn Try.prog 51 #[.pointer x0,.int .i64 x100',.int .i64 4] M fun v101' N101'=>
 adS x4 fun a102'=>
 onS (N101'.slAt a102'.block (a102'.off+26)) fun s103'=>
 ixS (idxA s103'.1 (s103'.2.1) 4 x11) fun a104'=>
 onS (N101'.intAt .i64 a104'.block (a104'.off+1)) fun x105'=>
 Cn Try.prog 51 #[.pointer x0,.int .i64 x105',.int .i64 2] N101' fun v106' N106'=>
 adS x4 fun a107'=>
 onS (N106'.slAt a107'.block (a107'.off+26)) fun s108'=>
 ixS (idxA s108'.1 (s108'.2.1) 4 x11) fun a109'=>
 onS (N106'.intAt .i64 a109'.block (a109'.off+2)) fun x110'=>
 Cn Try.prog 51 #[.pointer x0,.int .i64 x110',.int .i64 4] N106' fun v111' N111'=>
 adS x4 fun a112'=>
 onS (N111'.slAt a112'.block (a112'.off+26)) fun s113'=>
 ixS (idxA s113'.1 (s113'.2.1) 4 x11) fun a114'=>
 onS (N111'.intAt .i64 a114'.block (a114'.off+3)) fun x115'=>
 Cn Try.prog 51 #[.pointer x0,.int .i64 x115',.int .i64 2] N111' fun v116' N116'=>
 A25_5 x0 x4 (IntKind.i64.wrap (x11+1)) N116' Q) (
 A25_6 x0 x4 0 M Q)):
 A25_5 x0 x4 x11 M Q:=
 LvP.mk (cuts:=K25) (sp:=Z25) 900 H fun G=>by kernel_rfl
theorem w25_6 {x0 x4:Option Addr} {x12:Int} {M:Mem} {Q:Value→Mem→Prop} (H:
 cnd (decide (x12<3)) (
 adS x4 fun a117'=>
 ixS (idxA (some ⟨a117'.block,a117'.off+27,none⟩) 3 1 x12) fun a118'=>
 onS (M.boolAt a118'.block a118'.off) fun b119'=>
 Cn Try.prog 52 #[.bool b119'] M fun v120' N120'=>
 tyS (asI .i64 v120') fun x121'=>
 Cn Try.prog 51 #[.pointer x0,.int .i64 x121',.int .i64 1] N120' fun v122' N122'=>
 A25_6 x0 x4 (IntKind.i64.wrap (x12+1)) N122' Q) (
 Q (.int .i64 0) M)):
 A25_6 x0 x4 x12 M Q:=
 LvP.mk (cuts:=K25) (sp:=Z25) 900 H fun G=>by kernel_rfl
def K51:List (List It × List Nat):=[]
def Z51:List (List Nat × List Nat):=[]
theorem b51:Try.prog.funcs[51]?=some Try.f51∧(Orc.tab Try.prog).lookup 51=none∧Try.f51.body=some (codeOf Try.f51):=⟨by kernel_rfl,by kernel_rfl,by kernel_rfl⟩
theorem w51_0 {x0:Option Addr} {x1 x2:Int} {M:Mem} {Q:Value→Mem→Prop} (H:
 Cn Try.prog 23 #[.pointer x0,.int .u32 (IntKind.u32.wrap (x1)),.int .i64 x2] M fun v1' N1'=>
 tyS (asI .i64 v1') fun x2'=>
 Q (.tuple #[]) N1'):
 Cn Try.prog 51 #[.pointer x0,.int .i64 x1,.int .i64 x2] M Q:=
 Cn.mk (cuts:=K51) (sp:=Z51) 900 b51 rfl rfl H fun G=>by kernel_rfl
def K52:List (List It × List Nat):=[]
def Z52:List (List Nat × List Nat):=[]
theorem b52:Try.prog.funcs[52]?=some Try.f52∧(Orc.tab Try.prog).lookup 52=none∧Try.f52.body=some (codeOf Try.f52):=⟨by kernel_rfl,by kernel_rfl,by kernel_rfl⟩
theorem w52_0 {x0:Bool} {M:Mem} {Q:Value→Mem→Prop} (H:
 cnd x0 (
 Q (.int .i64 1) M) (
 Q (.int .i64 0) M)):
 Cn Try.prog 52 #[.bool x0] M Q:=
 Cn.mk (cuts:=K52) (sp:=Z52) 900 b52 rfl rfl H fun G=>by kernel_rfl
end Go.Zt

/- Layer 20: Write: the program's and the document's. -/
set_option linter.unusedSimpArgs false
set_option linter.unusedVariables false
set_option maxRecDepth 100000
namespace Go.Zt
open Go Go.Sim Go.Proofs Go.RowKit
structure Ws (U:Nat→Prop) (M:Mem) (j:Nat) (l:List Nat):Prop where
  dev:Wr (fun i=>U i∨M.nb.size≤i) M j l
  fl:∀ i,U i∨i=j→M.floor≤i
  fs:M.floor≤M.nb.size
  ub:∀ i,U i→i<M.nb.size
structure Wt (U:Nat→Prop) (M:Mem) (j:Nat) (l:List Nat):Prop where
  dev:Wf (fun i=>U i∨M.nb.size≤i) M j l
  fl:∀ i,U i∨i=j→M.floor≤i
  fs:M.floor≤M.nb.size
  ub:∀ i,U i→i<M.nb.size
theorem Wf.shrink {S T:Nat→Prop} {M:Mem} {j:Nat} {l:List Nat} (h:Wf S M j l) (hS:∀ i,i<M.nb.size→S i→T i) (hj:¬ T j):Wf T M j l:=by
  obtain ⟨A,c,g1,g2,g3⟩:=h.ex
  exact ⟨hj,h.bin,h.len,A,c,g1,g2.mono hS,g3⟩
section
variable {U:Nat→Prop} {M N:Mem} {j k:Nat} {l l':List Nat}
theorem Ws.lt (h:Ws U M j l):j<M.nb.size:=by obtain ⟨A,c,g1,_⟩:=h.dev.ex; exact lt_of_at g1
theorem Wt.lt (h:Wt U M j l):j<M.nb.size:=by obtain ⟨A,c,g1,_⟩:=h.dev.ex; exact lt_of_at g1
theorem Ws.out (h:Ws U M j l):¬ U j:=fun hu=>h.dev.out (.inl hu)
theorem Wt.out (h:Wt U M j l):¬ U j:=fun hu=>h.dev.out (.inl hu)
theorem Ws.chg {T:Nat→Prop} (h:Ws U M j l) (k:Chg T M N) (hT:∀ i,i<M.nb.size→U i∨i=j→¬ T i):Ws U N j l:=by
  have z:=k.size
  have hl:=h.lt
  refine ⟨((h.dev.shrink (T:=U) (fun i hi hs=>hs.resolve_right (by omega)) h.out).chg k fun i hi hs=>hT i hi hs).shrink (fun i _ hs=>.inl hs) fun hs=>hs.elim h.out fun q=>by omega,fun i hi=>by rw [k.floor]; exact h.fl i hi,by rw [k.floor]; exact Nat.le_trans h.fs z,fun i hi=>Nat.lt_of_lt_of_le (h.ub i hi) z⟩
theorem Wt.chg {T:Nat→Prop} (h:Wt U M j l) (k:Chg T M N) (hT:∀ i,i<M.nb.size→U i∨i=j→¬ T i):Wt U N j l:=by
  have z:=k.size
  have hl:=h.lt
  refine ⟨((h.dev.shrink (T:=U) (fun i hi hs=>hs.resolve_right (by omega)) h.out).chg k fun i hi hs=>hT i hi hs).shrink (fun i _ hs=>.inl hs) fun hs=>hs.elim h.out fun q=>by omega,fun i hi=>by rw [k.floor]; exact h.fl i hi,by rw [k.floor]; exact Nat.le_trans h.fs z,fun i hi=>Nat.lt_of_lt_of_le (h.ub i hi) z⟩
theorem Ws.keep (h:Ws U M j l) (k:Keep M N):Ws U N j l:=h.chg k fun _ _ _ x=>x
theorem Wt.keep (h:Wt U M j l) (k:Keep M N):Wt U N j l:=h.chg k fun _ _ _ x=>x
theorem Ws.flw (h:Ws U M j l):Fl (fun i=>U i∨M.nb.size≤i) M j:=
  ⟨fun i hi=>by
    rcases hi with (hi | hi) | hi
    · exact h.fl i (.inl hi)
    · exact Nat.le_trans h.fs hi
    · exact h.fl i (.inr hi),fun i hi=>.inr hi⟩
theorem Wt.flw (h:Wt U M j l):Fl (fun i=>U i∨M.nb.size≤i) M j:=
  ⟨fun i hi=>by
    rcases hi with (hi | hi) | hi
    · exact h.fl i (.inl hi)
    · exact Nat.le_trans h.fs hi
    · exact h.fl i (.inr hi),fun i hi=>.inr hi⟩
theorem Ws.of (h:Ws U M j l) (C:Chg (fun i=>(U i∨M.nb.size≤i)∨i=j) M N) (W:Wr (fun i=>U i∨M.nb.size≤i) N j l'):∃ U',Ext (· = j) U M U' N∧Ws U' N j l':=by
  have z:=C.size
  have hl:=h.lt
  refine ⟨fun i=>U i∨(M.nb.size≤i∧i<N.nb.size),⟨fun i hi=>hi.imp id fun q=>q.1,C.mono fun i hi hs=>hs.imp (fun q=>q.resolve_right (by omega)) id⟩,W.shrink (fun i hi hs=>.inl (hs.imp id fun q=>⟨q,hi⟩)) ?_,?_,by rw [C.floor]; exact Nat.le_trans h.fs z,?_⟩
  · rintro ((hu | hu) | hu)
    · exact h.out hu
    · omega
    · omega
  · intro i hi
    rw [C.floor]
    rcases hi with (hi | hi) | hi
    · exact h.fl i (.inl hi)
    · exact Nat.le_trans h.fs hi.1
    · exact h.fl i (.inr hi)
  · rintro i (hi | hi)
    · have:=h.ub i hi; omega
    · exact hi.2
theorem Wt.of (h:Wt U M j l) (C:Chg (fun i=>(U i∨M.nb.size≤i)∨i=j) M N) (W:Wf (fun i=>U i∨M.nb.size≤i) N j l'):∃ U',Ext (· = j) U M U' N∧Wt U' N j l':=by
  have z:=C.size
  have hl:=h.lt
  refine ⟨fun i=>U i∨(M.nb.size≤i∧i<N.nb.size),⟨fun i hi=>hi.imp id fun q=>q.1,C.mono fun i hi hs=>hs.imp (fun q=>q.resolve_right (by omega)) id⟩,W.shrink (fun i hi hs=>.inl (hs.imp id fun q=>⟨q,hi⟩)) ?_,?_,by rw [C.floor]; exact Nat.le_trans h.fs z,?_⟩
  · rintro ((hu | hu) | hu)
    · exact h.out hu
    · omega
    · omega
  · intro i hi
    rw [C.floor]
    rcases hi with (hi | hi) | hi
    · exact h.fl i (.inl hi)
    · exact Nat.le_trans h.fs hi.1
    · exact h.fl i (.inr hi)
  · rintro i (hi | hi)
    · have:=h.ub i hi; omega
    · exact hi.2
def FarW (U:Nat→Prop) (j:Nat) (M:Mem) (A:Option Addr):Prop:=∀ a,A=some a→a.block % 2=1∨(a.block / 2<M.nb.size∧¬ U (a.block / 2)∧a.block / 2≠j)
theorem FarW.ext {A:Option Addr} {U':Nat→Prop} (hF:FarW U j M A) (E:Ext (· = j) U M U' N):FarW U' j N A:=fun a ha=>
  (hF a ha).imp id fun ⟨q1,q2,q3⟩=>⟨Nat.lt_of_lt_of_le q1 E.chg.size,fun hu=>(E.sub _ hu).elim q2 fun q=>by omega,q3⟩
theorem FarW.row {A:Option Addr} {U':Nat→Prop} {L:List Value} (hF:FarW U j M A) (hR:Row M A L) (E:Ext (· = j) U M U' N):Row N A L:=
  hR.chg E.chg fun a ha=>(hF a ha).imp id fun ⟨q1,q2,q3⟩=>fun hs=>hs.elim q2 q3
theorem FarW.keep {A:Option Addr} (hF:FarW U j M A) (K:Keep M N):FarW U j N A:=fun a ha=>(hF a ha).imp id fun ⟨q1,q2,q3⟩=>⟨Nat.lt_of_lt_of_le q1 K.size,q2,q3⟩
end
section
variable {U:Nat→Prop} {M N:Mem} {jd:Nat} {l:List Nat} {h:Hd} {X:List Sg} {w e:Int}
theorem may_len (hm:h.may X w e=true):X.length≤8:=by
  have mS:mayS w e=true:=by unfold Hd.may at hm; simp only [Bool.and_eq_true] at hm; exact hm.1.1.1
  have mF:h.mayF X=true:=by
    cases hx:h.ex with
    | true=>
      unfold Hd.may at hm
      simp only [hx,if_true,Bool.and_eq_true] at hm
      exact (of_decide_eq_true hm.1.1.2.2).2.2.2.2.2.2.2.2.2
    | false=>exact ((may_iff hx mS).1 hm).2.2.2.2.2.2
  unfold Hd.mayF at mF
  split at mF
  · have:=of_decide_eq_true mF; omega
  · simp only [Bool.and_eq_true,decide_eq_true_eq] at mF
    have hc:=mF.1.2.1
    split at hc
    · rw [hc.2.2]; exact Nat.pow_le_pow_right (n:=2) (by decide) (show h.cb.toNat≤3 by omega)
    · omega
def wB (h:Hd) (X:List Sg) (w e:Int):List Nat:=if h.may X w e then hBits h X else []
set_option maxHeartbeats 1000000 in
theorem c24 (hW:Ws U M jd l) (hl:l.length≤70000000000) (hn:h.n=X.length) (hb:h.n≤1048576) (hR:Row M h.A (Sgs X)) (hF:FarW U jd M h.A):
    Cn Try.prog 24 #[PtrB jd,.agg h.cs,.agg #[.int .i64 w,.int .i64 e]] M fun u N=>u=.int .i64 (er (h.may X w e):Nat)∧∃ U',Ext (· = jd) U M U' N∧Ws U' N jd (l ++ wB h X w e):=by
  have ld:=hW.lt
  have a:=Mem.new_at M (.cells h.cs 41)
  have K1:Keep M (M.new (.cells h.cs 41)):=.new _ _
  have z1:=Mem.new_size M (.cells h.cs 41)
  refine w24_0 ?_
  generalize M.new (.cells h.cs 41)=M1 at a K1 z1 ⊢
  have s:=Mem.new_at M1 (.cells #[.int .i64 w,.int .i64 e] 23)
  have K2:Keep M1 (M1.new (.cells #[.int .i64 w,.int .i64 e] 23)):=.new _ _
  have a2:=at_keep a K2
  generalize M1.new (.cells #[.int .i64 w,.int .i64 e] 23)=M2 at s K2 a2 ⊢
  have KK:=K1.trans K2
  have W2:=hW.keep KK
  refine Cn.mono (c22 W2.flw W2.dev (v:=0) (y:=0) rfl (by decide) 0 (by omega)) ?_
  have e0:wFixed l 0 0=(0,l):=by unfold wFixed; rw [if_neg (by decide)]; simp [bitsN]
  rw [e0]
  rintro _ N1 ⟨rfl,C,W⟩
  obtain ⟨U3,E3,W3⟩:=W2.of C W
  have ub:∀ i,M.nb.size≤i→¬ U i:=fun i hi hu=>by have:=hW.ub i hu; omega
  have a3:=E3.at a2 (ub _ (Nat.le_refl _)) (by omega)
  have s3:=E3.at s (ub _ (by omega)) (by omega)
  have hR3:=(hF.keep KK).row (hR.keep KK) E3
  have hF3:=(hF.keep KK).ext E3
  refine ty rfl (cF rfl (ldA a3.1 rfl (on (int_of s3.1 rfl) (on (int_of s3.1 rfl) (Cn.mono (c26 W3.fs hn hb hR3) ?_)))))
  rintro _ N6 ⟨rfl,K6⟩
  have E6:Ext (· = jd) U M U3 N6:=((Ext.of (P:=(· = jd)) (U:=U) KK fun i _ h=>h.elim).trans E3).trans (Ext.of K6 fun i _ h=>h.elim)
  have W6:=W3.keep K6
  have z3:=E3.chg.size
  have z6:=K6.size
  have z2:=K2.size
  refine ty rfl (cne (fun hm=>⟨rfl,U3,E6,?_⟩) fun hm=>?_)
  · have:wB h X w e=[]:=by
      unfold wB
      cases hmm:h.may X w e
      · rfl
      · rw [hmm] at hm; exact absurd rfl hm
    rw [this,List.append_nil]; exact W6
  have hm:h.may X w e=true:=by
    cases hmm:h.may X w e
    · rw [hmm] at hm; cases hm
    · rfl
  have mS:mayS w e=true:=by unfold Hd.may at hm; simp only [Bool.and_eq_true] at hm; exact hm.1.1.1
  have sz:=mayS_of mS
  have a6:=at_keep a3.1 K6
  have s6:=at_keep s3.1 K6
  have cc:=Mem.new_at N6 (.cells #[PtrB jd,.pointer none,.int .i64 0] 89)
  have K7:Keep N6 (N6.new (.cells #[PtrB jd,.pointer none,.int .i64 0] 89)):=.new _ _
  generalize N6.new (.cells #[PtrB jd,.pointer none,.int .i64 0] 89)=N7 at cc K7 ⊢
  have W7:=W6.keep K7
  have a7:=at_keep a6 K7
  have s7:=at_keep s6 K7
  have n3:¬ U3 N6.nb.size:=fun hu=>by have:=W6.ub _ hu; omega
  have hR7:=(hR3.keep K6).keep K7
  have hF7:=(hF3.keep K6).keep K7
  have z7:=K7.size
  have fl6:N7.floor=M.floor:=by rw [K7.floor,K6.floor,E3.chg.floor,KK.floor]
  have H:Hm U3 N7 N6.nb.size jd M.nb.size (.w l,0,h) (90+90):=
    ⟨⟨W7.dev,fun i hi=>by
      rcases hi with hi | hi | hi
      · exact W7.fl i (.inl hi)
      · exact W7.fl i (.inr hi)
      · have:=W6.fs; rw [K7.floor]; omega,W7.fs,cc,n3,by omega,by simp only [Dv.len]; omega,W7.ub⟩,a7,a3.2,by omega,by omega,by rw [fl6]; exact hW.fs⟩
  have hX:Xm U3 N7 N6.nb.size jd M.nb.size (.w l,0,h) X:=⟨hn,hR7,fun a ha=>(hF a ha).elim .inl fun ⟨q1,q2,q3⟩=>(hF7 a ha).imp id fun ⟨p1,p2,p3⟩=>⟨p1,p2,by omega,p3,by omega⟩⟩
  refine on (int_of s7 rfl) (on (int_of s7 rfl) (Cn.mono (c50 (k:=90) (by omega) (by omega) H hX (may_len hm) fun b p hc=>by cases hc) ?_))
  rintro _ N10 ⟨_,U',c',X',hT,E,HH,_,_⟩
  obtain ⟨rfl,rfl⟩:=HeadT_w hm hT
  have hw:wB h X' w e=hBits h X':=by unfold wB; rw [hm]; rfl
  have er0:(er (h.may X' w e):Nat)=0:=by rw [hm]; rfl
  refine on (int_of HH.st.cod rfl) ⟨by rw [er0],U',E6.step K7 E fun i hi=>?_,HH.st.dev |> fun q=>?_⟩
  · rcases hi with hi | hi | hi
    · exact .inr (by omega)
    · exact .inl hi
    · exact .inr (by omega)
  · rw [hw]
    exact ⟨q,fun i hi=>HH.st.fl i (hi.imp id .inl),HH.st.fs,HH.st.ub⟩
end
end Go.Zt
