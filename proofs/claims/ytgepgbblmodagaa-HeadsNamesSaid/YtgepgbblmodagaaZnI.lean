/- Layer 20: HeadsNames: the chapter's key frame,and what turned makes of it. Printed by genI.py. -/
import Derived.Test.YtgepgbblmodagaaZnH
import Derived.Test.YtgepgbblmodagaaZmO
import Derived.Test.YtgepgbblmodagaaZlW
import Derived.Test.YtgepgbblmodagaaZlM
set_option linter.unusedSimpArgs false
set_option linter.unusedVariables false
set_option maxRecDepth 100000
namespace Go.Zt
open Go Go.Sim Go.Proofs Go.RowKit
abbrev uH:Hd:={ zP with sh:=true,ke:=true,rf:=255,pr := -1 }
abbrev gH (A:Option Addr):Hd:={ zP with rf:=3,r0:=1,r1:=2,r2:=7,ba:=9,cd:=true,da:=3,A:=A,n:=1,c:=1,x0:=true,x2:=true }
theorem c41 {M:Mem} (hf:M.floor≤M.nb.size):Cn Try.prog 41 #[] M fun v N=>v=.agg uH.cs∧Keep M N:=
  w41_0 (stN (cs:=uH.cs) hf rfl rfl rfl fun M1 K1 z1 b1=>ldA b1 rfl ⟨rfl,K1⟩)
theorem row_at {M:Mem} {j:Nat} {cs:Array Value} {t:TypeId} (a:M.nb[j]?=some (.cells cs t)):Row M (some ⟨2*j,0,none⟩) cs.toList:=by
  intro i hi
  refine ⟨_,rfl,?_⟩
  rw [cell_of a,Nat.zero_add]
  have:i<cs.size:=by simpa using hi
  simp [this]
def Gt (M0 M:Mem) (h:Hd) (X:List Sg):Prop:=h.n=X.length∧h.n≤16∧Row M h.A (Sgs X)∧∀ a,h.A=some a→a.block % 2=0∧M0.nb.size≤a.block / 2∧a.block / 2<M.nb.size
def P42 (x:Int) (M0:Mem):Value→Mem→Prop:=fun v N=>∃ h X,v=.agg h.cs∧Gt M0 N h X∧Keep M0 N∧(x=9→h.A=none∧h.c=0∧X=[])
structure S42 (M0 M:Mem) (j2 j3 j4:Nat) (h g:Hd) (X Y:List Sg):Prop where
  K:Keep M0 M
  hf:M0.floor≤M0.nb.size
  o2:M0.nb.size≤j2
  o3:M0.nb.size≤j3
  o4:M0.nb.size≤j4
  a2:M.nb[j2]?=some (.cells zP.cs 41)
  a3:M.nb[j3]?=some (.cells h.cs 41)
  a4:M.nb[j4]?=some (.cells g.cs 41)
  n23:j2≠j3
  n24:j2≠j4
  n34:j3≠j4
  g3:Gt M0 M h X
  g4:Gt M0 M g Y
  d3:∀ a,h.A=some a→a.block / 2≠j2∧a.block / 2≠j3∧a.block / 2≠j4
  d4:∀ a,g.A=some a→a.block / 2≠j2∧a.block / 2≠j3∧a.block / 2≠j4
section
variable {M0 M N:Mem} {j2 j3 j4:Nat} {h g:Hd} {X Y:List Sg} {T:Nat→Prop} {x0:Int}
theorem Gt.chg (G:Gt M0 M h X) (C:Chg T M N) (hT:∀ a,h.A=some a→¬ T (a.block / 2)):Gt M0 N h X:=
  ⟨G.1,G.2.1,G.2.2.1.chg C fun a ha=>.inr (hT a ha),fun a ha=>⟨(G.2.2.2 a ha).1,(G.2.2.2 a ha).2.1,Nat.lt_of_lt_of_le (G.2.2.2 a ha).2.2 C.size⟩⟩
theorem Gt.nil (hn:h.n=0) (hA:h.A=none):Gt M0 M h []:=⟨hn,by omega,fun i hi=>by simp at hi,fun a ha=>by rw [hA] at ha; cases ha⟩
theorem S42.fl (S:S42 M0 M j2 j3 j4 h g X Y):M.floor≤M0.nb.size:=by rw [S.K.floor]; exact S.hf
theorem S42.s3 (S:S42 M0 M j2 j3 j4 h g X Y) (C:Chg (· = j3) M N) {h':Hd} (a:N.nb[j3]?=some (.cells h'.cs 41)) (e:h'.A=h.A∧h'.n=h.n):S42 M0 N j2 j3 j4 h' g X Y:=
  ⟨Keep.step S.K C fun i hi=>by rw [hi]; exact S.o3,S.hf,S.o2,S.o3,S.o4,at_chg S.a2 C S.n23,a,at_chg S.a4 C fun q=>S.n34 q.symm,S.n23,S.n24,S.n34,by
    have:=S.g3.chg C fun a ha=>(S.d3 a ha).2.1
    unfold Gt at this ⊢
    rw [e.1,e.2]; exact this,S.g4.chg C fun a ha=>(S.d4 a ha).2.1,by rw [e.1]; exact S.d3,S.d4⟩
theorem S42.s4 (S:S42 M0 M j2 j3 j4 h g X Y) (C:Chg (· = j4) M N) {g':Hd} (a:N.nb[j4]?=some (.cells g'.cs 41)) (e:g'.A=g.A∧g'.n=g.n):S42 M0 N j2 j3 j4 h g' X Y:=
  ⟨Keep.step S.K C fun i hi=>by rw [hi]; exact S.o4,S.hf,S.o2,S.o3,S.o4,at_chg S.a2 C S.n24,at_chg S.a3 C S.n34,a,S.n23,S.n24,S.n34,S.g3.chg C fun a ha=>(S.d3 a ha).2.2,by
    have:=S.g4.chg C fun a ha=>(S.d4 a ha).2.2
    unfold Gt at this ⊢
    rw [e.1,e.2]; exact this,S.d3,by rw [e.1]; exact S.d4⟩
theorem S42.p3 (S:S42 M0 M j2 j3 j4 h g X Y) (k:Nat) (v:Value) {h':Hd} (e:h.cs.setIfInBounds k v=h'.cs) (hk:k<30) (hv:oneCell v=true) (e':h'.A=h.A∧h'.n=h.n) {p:Mem→Prop} (F:∀ N,S42 M0 N j2 j3 j4 h' g X Y→p N):ptS (M.put (2*j3) k v) p:=by
  obtain ⟨N,q1,q2,q3,q4⟩:=put1 k v S.a3 (Nat.le_trans S.fl S.o3) hk hv
  exact pt q1 (F N (S.s3 q2 (e ▸ q4) e'))
theorem S42.p4 (S:S42 M0 M j2 j3 j4 h g X Y) (k:Nat) (v:Value) {g':Hd} (e:g.cs.setIfInBounds k v=g'.cs) (hk:k<30) (hv:oneCell v=true) (e':g'.A=g.A∧g'.n=g.n) {p:Mem→Prop} (F:∀ N,S42 M0 N j2 j3 j4 h g' X Y→p N):ptS (M.put (2*j4) k v) p:=by
  obtain ⟨N,q1,q2,q3,q4⟩:=put1 k v S.a4 (Nat.le_trans S.fl S.o4) hk hv
  exact pt q1 (F N (S.s4 q2 (e ▸ q4) e'))
theorem S42.st3 (S:S42 M0 M j2 j3 j4 h g X Y) {h':Hd} (e':h'.A=h.A∧h'.n=h.n) {p:Mem→Prop} (F:∀ N,S42 M0 N j2 j3 j4 h' g X Y→p N):stP (some 30) h'.cs M (2*j3) 0 p:=
  stA (cs:=h'.cs) S.a3 (Nat.le_trans S.fl S.o3) rfl rfl rfl fun N C z b=>F N (S.s3 C b e')
theorem S42.r3 (S:S42 M0 M j2 j3 j4 h g X Y) {jx:Nat} {X':List Sg} (hx:M0.nb.size≤jx∧jx<M.nb.size) (dx:jx≠j2∧jx≠j3∧jx≠j4) (R:Row M (some ⟨2*jx,0,none⟩) (Sgs X')) (hl:X'.length≤16) {p:Mem→Prop} (F:∀ N,S42 M0 N j2 j3 j4 { h with A:=some ⟨2*jx,0,none⟩,n:=X'.length,c:=X'.length } g X' Y→p N):
    ptS (M.put (2*j3) 26 (.slice (some ⟨2*jx,0,none⟩) X'.length X'.length)) p:=by
  obtain ⟨N,q1,q2,q3,q4⟩:=put1 26 (.slice (some ⟨2*jx,0,none⟩) X'.length X'.length) S.a3 (Nat.le_trans S.fl S.o3) (show 26<30 by decide) rfl
  have e:(2*jx) / 2=jx:=by omega
  refine pt q1 (F N ⟨Keep.step S.K q2 fun i hi=>by rw [hi]; exact S.o3,S.hf,S.o2,S.o3,S.o4,at_chg S.a2 q2 S.n23,q4,at_chg S.a4 q2 fun q=>S.n34 q.symm,S.n23,S.n24,S.n34,⟨rfl,hl,R.chg q2 fun a ha=>?_,fun a ha=>?_⟩,S.g4.chg q2 fun a ha=>(S.d4 a ha).2.1,fun a ha=>?_,S.d4⟩)
  · obtain rfl:=Option.some.inj ha; refine .inr ?_; show ¬ (2*jx) / 2=j3; rw [e]; exact dx.2.1
  · obtain rfl:=Option.some.inj ha; refine ⟨by show (2*jx) % 2=0; omega,?_,?_⟩
    · show _≤(2*jx) / 2; rw [e]; exact hx.1
    · show (2*jx) / 2<_; rw [e,q3]; exact hx.2
  · obtain rfl:=Option.some.inj ha; show (2*jx) / 2≠j2∧(2*jx) / 2≠j3∧(2*jx) / 2≠j4; rw [e]; exact dx
theorem S42.r4 (S:S42 M0 M j2 j3 j4 h g X Y) {jx:Nat} {X':List Sg} (hx:M0.nb.size≤jx∧jx<M.nb.size) (dx:jx≠j2∧jx≠j3∧jx≠j4) (R:Row M (some ⟨2*jx,0,none⟩) (Sgs X')) (hl:X'.length≤16) {p:Mem→Prop} (F:∀ N,S42 M0 N j2 j3 j4 h { g with A:=some ⟨2*jx,0,none⟩,n:=X'.length,c:=X'.length } X X'→p N):
    ptS (M.put (2*j4) 26 (.slice (some ⟨2*jx,0,none⟩) X'.length X'.length)) p:=by
  obtain ⟨N,q1,q2,q3,q4⟩:=put1 26 (.slice (some ⟨2*jx,0,none⟩) X'.length X'.length) S.a4 (Nat.le_trans S.fl S.o4) (show 26<30 by decide) rfl
  have e:(2*jx) / 2=jx:=by omega
  refine pt q1 (F N ⟨Keep.step S.K q2 fun i hi=>by rw [hi]; exact S.o4,S.hf,S.o2,S.o3,S.o4,at_chg S.a2 q2 S.n24,at_chg S.a3 q2 S.n34,q4,S.n23,S.n24,S.n34,S.g3.chg q2 fun a ha=>(S.d3 a ha).2.2,⟨rfl,hl,R.chg q2 fun a ha=>?_,fun a ha=>?_⟩,S.d3,fun a ha=>?_⟩)
  · obtain rfl:=Option.some.inj ha; refine .inr ?_; show ¬ (2*jx) / 2=j4; rw [e]; exact dx.2.2
  · obtain rfl:=Option.some.inj ha; refine ⟨by show (2*jx) % 2=0; omega,?_,?_⟩
    · show _≤(2*jx) / 2; rw [e]; exact hx.1
    · show (2*jx) / 2<_; rw [e,q3]; exact hx.2
  · obtain rfl:=Option.some.inj ha; show (2*jx) / 2≠j2∧(2*jx) / 2≠j3∧(2*jx) / 2≠j4; rw [e]; exact dx
theorem S42.new (S:S42 M0 M j2 j3 j4 h g X Y) (b:Blk):S42 M0 (M.new b) j2 j3 j4 h g X Y:=by
  have C:Keep M (M.new b):=.new _ _
  exact ⟨S.K.trans C,S.hf,S.o2,S.o3,S.o4,at_keep S.a2 C,at_keep S.a3 C,at_keep S.a4 C,S.n23,S.n24,S.n34,S.g3.chg C fun _ _ h=>h,S.g4.chg C fun _ _ h=>h,S.d3,S.d4⟩
theorem fin42 (S:S42 M0 M j2 j3 j4 h g X Y) (hx:0≤x0∧x0<40) (h9:x0=9→h.A=none∧h.c=0∧X=[]):A42_1 x0 (some ⟨2*j2,0,none⟩) (some ⟨2*j3,0,none⟩) (some ⟨2*j4,0,none⟩) M (P42 x0 M0):=by
  refine w42_1 (ad rfl (on30 (hdAt S.a3) (ad rfl (on30 (hdAt S.a4) ?_))))
  have R:Row (M.new (.cells #[.bool h.ex,.int .i64 h.sl,.bool h.sh,.bool h.ke,.int .i64 h.rf,.int .i64 h.r0,.int .i64 h.r1,.int .i64 h.r2,.int .i64 h.pr,.int .i64 h.ba,.int .i64 h.d0,.int .i64 h.d1,.int .i64 h.d2,.int .i64 h.d3,.int .i64 h.d4,.int .i64 h.co,.int .i64 h.ro,.bool h.na,.int .i64 h.l0,.int .i64 h.l1,.int .i64 h.l2,.int .i64 h.l3,.int .i64 h.sp,.bool h.cd,.int .i64 h.da,.int .i64 h.cb,.slice h.A h.n h.c,.bool h.x0,.bool h.x1,.bool h.x2,.bool g.ex,.int .i64 g.sl,.bool g.sh,.bool g.ke,.int .i64 g.rf,.int .i64 g.r0,.int .i64 g.r1,.int .i64 g.r2,.int .i64 g.pr,.int .i64 g.ba,.int .i64 g.d0,.int .i64 g.d1,.int .i64 g.d2,.int .i64 g.d3,.int .i64 g.d4,.int .i64 g.co,.int .i64 g.ro,.bool g.na,.int .i64 g.l0,.int .i64 g.l1,.int .i64 g.l2,.int .i64 g.l3,.int .i64 g.sp,.bool g.cd,.int .i64 g.da,.int .i64 g.cb,.slice g.A g.n g.c,.bool g.x0,.bool g.x1,.bool g.x2] 41)) (some ⟨2*M.nb.size,0,none⟩) (Hds [(h,X),(g,Y)]):=Row.new M 41 [.bool h.ex,.int .i64 h.sl,.bool h.sh,.bool h.ke,.int .i64 h.rf,.int .i64 h.r0,.int .i64 h.r1,.int .i64 h.r2,.int .i64 h.pr,.int .i64 h.ba,.int .i64 h.d0,.int .i64 h.d1,.int .i64 h.d2,.int .i64 h.d3,.int .i64 h.d4,.int .i64 h.co,.int .i64 h.ro,.bool h.na,.int .i64 h.l0,.int .i64 h.l1,.int .i64 h.l2,.int .i64 h.l3,.int .i64 h.sp,.bool h.cd,.int .i64 h.da,.int .i64 h.cb,.slice h.A h.n h.c,.bool h.x0,.bool h.x1,.bool h.x2,.bool g.ex,.int .i64 g.sl,.bool g.sh,.bool g.ke,.int .i64 g.rf,.int .i64 g.r0,.int .i64 g.r1,.int .i64 g.r2,.int .i64 g.pr,.int .i64 g.ba,.int .i64 g.d0,.int .i64 g.d1,.int .i64 g.d2,.int .i64 g.d3,.int .i64 g.d4,.int .i64 g.co,.int .i64 g.ro,.bool g.na,.int .i64 g.l0,.int .i64 g.l1,.int .i64 g.l2,.int .i64 g.l3,.int .i64 g.sp,.bool g.cd,.int .i64 g.da,.int .i64 g.cb,.slice g.A g.n g.c,.bool g.x0,.bool g.x1,.bool g.x2]
  have S':=S.new (.cells #[.bool h.ex,.int .i64 h.sl,.bool h.sh,.bool h.ke,.int .i64 h.rf,.int .i64 h.r0,.int .i64 h.r1,.int .i64 h.r2,.int .i64 h.pr,.int .i64 h.ba,.int .i64 h.d0,.int .i64 h.d1,.int .i64 h.d2,.int .i64 h.d3,.int .i64 h.d4,.int .i64 h.co,.int .i64 h.ro,.bool h.na,.int .i64 h.l0,.int .i64 h.l1,.int .i64 h.l2,.int .i64 h.l3,.int .i64 h.sp,.bool h.cd,.int .i64 h.da,.int .i64 h.cb,.slice h.A h.n h.c,.bool h.x0,.bool h.x1,.bool h.x2,.bool g.ex,.int .i64 g.sl,.bool g.sh,.bool g.ke,.int .i64 g.rf,.int .i64 g.r0,.int .i64 g.r1,.int .i64 g.r2,.int .i64 g.pr,.int .i64 g.ba,.int .i64 g.d0,.int .i64 g.d1,.int .i64 g.d2,.int .i64 g.d3,.int .i64 g.d4,.int .i64 g.co,.int .i64 g.ro,.bool g.na,.int .i64 g.l0,.int .i64 g.l1,.int .i64 g.l2,.int .i64 g.l3,.int .i64 g.sp,.bool g.cd,.int .i64 g.da,.int .i64 g.cb,.slice g.A g.n g.c,.bool g.x0,.bool g.x1,.bool g.x2] 41)
  have hq:IntKind.i64.wrap (x0.tdiv 20)=((x0.toNat / 20:Nat):Int):=by
    rw [show x0=((x0.toNat:Nat):Int) by omega,show (20:Int)=((20:Nat):Int) from rfl,tdivN,i64w (by omega)]
    simp
  by_cases h20:x0<20
  · obtain ⟨a,e1,e2⟩:=Hds.elt R (n:=2) (i:=0) (z:=if 1<IntKind.i64.wrap (x0.tdiv 20) then 1 else IntKind.i64.wrap (x0.tdiv 20)) (by rw [hq]; split <;> omega) (by decide) (by simp)
    have e2':HdAt _ a.block a.off h:=e2
    refine ix e1 (on30 e2' (ad rfl (stA (cs:=h.cs) S'.a2 (Nat.le_trans S'.fl S'.o2) rfl rfl rfl fun N2 C z b=>ad rfl (on30 (hdAt b) ?_))))
    exact ⟨h,X,rfl,S'.g3.chg C fun a ha=>(S.d3 a ha).1,Keep.step S'.K C fun i hi=>by rw [hi]; exact S'.o2,h9⟩
  · obtain ⟨a,e1,e2⟩:=Hds.elt R (n:=2) (i:=1) (z:=if 1<IntKind.i64.wrap (x0.tdiv 20) then 1 else IntKind.i64.wrap (x0.tdiv 20)) (by rw [hq]; split <;> omega) (by decide) (by simp)
    have e2':HdAt _ a.block a.off g:=e2
    refine ix e1 (on30 e2' (ad rfl (stA (cs:=g.cs) S'.a2 (Nat.le_trans S'.fl S'.o2) rfl rfl rfl fun N2 C z b=>ad rfl (on30 (hdAt b) ?_))))
    exact ⟨g,Y,rfl,S'.g4.chg C fun a ha=>(S.d4 a ha).1,Keep.step S'.K C fun i hi=>by rw [hi]; exact S'.o2,fun q=>by omega⟩
theorem k16 (S:S42 M0 M j2 j3 j4 uH g X Y) {p:Mem→Prop} (F:∀ N,S42 M0 N j2 j3 j4 { uH with A:=some ⟨2*M.nb.size,0,none⟩,n:=1,c:=1 } g [⟨0,0,0,0⟩] Y→p N):ptS ((M.new (.cells #[.int .i64 0,.int .i64 0,.int .i64 0,.int .i64 0] 96)).put (2*j3) 26 (.slice (some ⟨2*M.nb.size,0,none⟩) 1 1)) p:=
  (S.new (.cells #[.int .i64 0,.int .i64 0,.int .i64 0,.int .i64 0] 96)).r3 (X':=[⟨0,0,0,0⟩]) ⟨S.K.size,by rw [Mem.new_size]; omega⟩ ⟨by have:=lt_of_at S.a2; omega,by have:=lt_of_at S.a3; omega,by have:=lt_of_at S.a4; omega⟩ (row_at (cs:=#[.int .i64 0,.int .i64 0,.int .i64 0,.int .i64 0]) (Mem.new_at _ _)) (by decide) F
theorem k24 {jx:Nat} (S:S42 M0 M j2 j3 j4 uH (gH (some ⟨2*jx,0,none⟩)) [] Y) (ax:M.nb[jx]?=some (.cells #[.int .i64 15,.int .i64 3,.int .i64 1,.int .i64 0] 96)) (hj:M0.nb.size≤jx∧jx≠j2∧jx≠j3∧jx≠j4) (o:Nat) (v:Int) (Y':List Sg) (e:(#[Value.int .i64 15,.int .i64 3,.int .i64 1,.int .i64 0].setIfInBounds o (.int .i64 v)).toList=Sgs Y') (hl:Y'.length=1) (ho:o<4) {p:Mem→Prop} (F:∀ N,S42 M0 N j2 j3 j4 uH (gH (some ⟨2*jx,0,none⟩)) [] Y'→p N):
    onS (M.slAt (2*j4) 26) fun s=>ixS (idxA s.1 s.2.1 4 0) fun a=>ptS (M.put a.block (a.off+o) (.int .i64 v)) p:=by
  refine on (sl_of (i:=26) S.a4 rfl) (ix (x:=⟨2*jx,0,none⟩) (by kernel_rfl) ?_)
  obtain ⟨N,q1,q2,q3,q4⟩:=put1 o (.int .i64 v) ax (Nat.le_trans S.fl hj.1) ho rfl
  have e2:(2*jx) / 2=jx:=by omega
  refine pt (show M.put (2*jx) (0+o) _=some N by rw [Nat.zero_add]; exact q1) (F N ⟨Keep.step S.K q2 fun i hi=>by rw [hi]; exact hj.1,S.hf,S.o2,S.o3,S.o4,at_chg S.a2 q2 (by omega),at_chg S.a3 q2 (by omega),at_chg S.a4 q2 (by omega),S.n23,S.n24,S.n34,Gt.nil rfl rfl,⟨hl.symm,(show 1≤16 by decide),e ▸ row_at q4,fun a ha=>?_⟩,S.d3,S.d4⟩)
  obtain rfl:=Option.some.inj ha
  refine ⟨by show (2*jx) % 2=0; omega,?_,?_⟩
  · show _≤(2*jx) / 2; rw [e2]; exact hj.1
  · show (2*jx) / 2<_; rw [e2,q3]; exact lt_of_at ax
theorem k34 {A:Option Addr} (S:S42 M0 M j2 j3 j4 h (gH A) X Y) {p:Mem→Prop} (F:∀ N,S42 M0 N j2 j3 j4 h { gH A with cb:=3,A:=some ⟨2*M.nb.size,0,none⟩,n:=8,c:=8 } X (List.replicate 8 ⟨0,0,0,0⟩)→p N):
    meS (makeP Try.prog 38 (.int .i64 8) (.int .i64 8) M) fun r=>tyS (asS r.1) fun s=>cnd (decide (some (2*j4)=some (2*M.nb.size))) False (ptS (r.2.put (2*j4) 25 (.int .i64 3)) fun N=>ptS (N.put (2*j4) 26 (.slice s.1 s.2.1 s.2.2)) p):=by
  have l2:=lt_of_at S.a2
  have l3:=lt_of_at S.a3
  have l4:=lt_of_at S.a4
  have R:=row_at (Mem.new_at M (.cells #[.int .i64 0,.int .i64 0,.int .i64 0,.int .i64 0,.int .i64 0,.int .i64 0,.int .i64 0,.int .i64 0,.int .i64 0,.int .i64 0,.int .i64 0,.int .i64 0,.int .i64 0,.int .i64 0,.int .i64 0,.int .i64 0,.int .i64 0,.int .i64 0,.int .i64 0,.int .i64 0,.int .i64 0,.int .i64 0,.int .i64 0,.int .i64 0,.int .i64 0,.int .i64 0,.int .i64 0,.int .i64 0,.int .i64 0,.int .i64 0,.int .i64 0,.int .i64 0] 96))
  have S':=S.new (.cells #[.int .i64 0,.int .i64 0,.int .i64 0,.int .i64 0,.int .i64 0,.int .i64 0,.int .i64 0,.int .i64 0,.int .i64 0,.int .i64 0,.int .i64 0,.int .i64 0,.int .i64 0,.int .i64 0,.int .i64 0,.int .i64 0,.int .i64 0,.int .i64 0,.int .i64 0,.int .i64 0,.int .i64 0,.int .i64 0,.int .i64 0,.int .i64 0,.int .i64 0,.int .i64 0,.int .i64 0,.int .i64 0,.int .i64 0,.int .i64 0,.int .i64 0,.int .i64 0] 96)
  refine me (x:=(.slice (some ⟨2*M.nb.size,0,none⟩) 8 8,M.new (.cells #[.int .i64 0,.int .i64 0,.int .i64 0,.int .i64 0,.int .i64 0,.int .i64 0,.int .i64 0,.int .i64 0,.int .i64 0,.int .i64 0,.int .i64 0,.int .i64 0,.int .i64 0,.int .i64 0,.int .i64 0,.int .i64 0,.int .i64 0,.int .i64 0,.int .i64 0,.int .i64 0,.int .i64 0,.int .i64 0,.int .i64 0,.int .i64 0,.int .i64 0,.int .i64 0,.int .i64 0,.int .i64 0,.int .i64 0,.int .i64 0,.int .i64 0,.int .i64 0] 96))) (by kernel_rfl) (ty rfl (cF (decide_eq_false (by intro h; injection h with h; omega)) ?_))
  obtain ⟨N,q1,q2,q3,q4⟩:=put1 25 (.int .i64 3) S'.a4 (Nat.le_trans S'.fl S'.o4) (show 25<30 by decide) rfl
  have S1:S42 M0 N j2 j3 j4 h { gH A with cb:=3 } X Y:=S'.s4 q2 q4 ⟨rfl,rfl⟩
  have z:=S.K.size
  rw [Mem.new_size] at q3
  exact pt q1 (S1.r4 (jx:=M.nb.size) (X':=List.replicate 8 ⟨0,0,0,0⟩) ⟨z,by omega⟩ ⟨by omega,by omega,by omega⟩ (R.chg q2 fun a ha=>.inr (by obtain rfl:=Option.some.inj ha; show ¬ (2*M.nb.size) / 2=j4; omega)) (by decide) F)
theorem k35 {A:Option Addr} (S:S42 M0 M j2 j3 j4 h (gH A) X Y) {p:Mem→Prop} (F:∀ N,S42 M0 N j2 j3 j4 h { gH A with cb:=4,A:=some ⟨2*M.nb.size,0,none⟩,n:=16,c:=16 } X (List.replicate 16 ⟨0,0,0,0⟩)→p N):
    meS (makeP Try.prog 38 (.int .i64 16) (.int .i64 16) M) fun r=>tyS (asS r.1) fun s=>cnd (decide (some (2*j4)=some (2*M.nb.size))) False (ptS (r.2.put (2*j4) 25 (.int .i64 4)) fun N=>ptS (N.put (2*j4) 26 (.slice s.1 s.2.1 s.2.2)) p):=by
  have l2:=lt_of_at S.a2
  have l3:=lt_of_at S.a3
  have l4:=lt_of_at S.a4
  have R:=row_at (Mem.new_at M (.cells #[.int .i64 0,.int .i64 0,.int .i64 0,.int .i64 0,.int .i64 0,.int .i64 0,.int .i64 0,.int .i64 0,.int .i64 0,.int .i64 0,.int .i64 0,.int .i64 0,.int .i64 0,.int .i64 0,.int .i64 0,.int .i64 0,.int .i64 0,.int .i64 0,.int .i64 0,.int .i64 0,.int .i64 0,.int .i64 0,.int .i64 0,.int .i64 0,.int .i64 0,.int .i64 0,.int .i64 0,.int .i64 0,.int .i64 0,.int .i64 0,.int .i64 0,.int .i64 0,.int .i64 0,.int .i64 0,.int .i64 0,.int .i64 0,.int .i64 0,.int .i64 0,.int .i64 0,.int .i64 0,.int .i64 0,.int .i64 0,.int .i64 0,.int .i64 0,.int .i64 0,.int .i64 0,.int .i64 0,.int .i64 0,.int .i64 0,.int .i64 0,.int .i64 0,.int .i64 0,.int .i64 0,.int .i64 0,.int .i64 0,.int .i64 0,.int .i64 0,.int .i64 0,.int .i64 0,.int .i64 0,.int .i64 0,.int .i64 0,.int .i64 0,.int .i64 0] 96))
  have S':=S.new (.cells #[.int .i64 0,.int .i64 0,.int .i64 0,.int .i64 0,.int .i64 0,.int .i64 0,.int .i64 0,.int .i64 0,.int .i64 0,.int .i64 0,.int .i64 0,.int .i64 0,.int .i64 0,.int .i64 0,.int .i64 0,.int .i64 0,.int .i64 0,.int .i64 0,.int .i64 0,.int .i64 0,.int .i64 0,.int .i64 0,.int .i64 0,.int .i64 0,.int .i64 0,.int .i64 0,.int .i64 0,.int .i64 0,.int .i64 0,.int .i64 0,.int .i64 0,.int .i64 0,.int .i64 0,.int .i64 0,.int .i64 0,.int .i64 0,.int .i64 0,.int .i64 0,.int .i64 0,.int .i64 0,.int .i64 0,.int .i64 0,.int .i64 0,.int .i64 0,.int .i64 0,.int .i64 0,.int .i64 0,.int .i64 0,.int .i64 0,.int .i64 0,.int .i64 0,.int .i64 0,.int .i64 0,.int .i64 0,.int .i64 0,.int .i64 0,.int .i64 0,.int .i64 0,.int .i64 0,.int .i64 0,.int .i64 0,.int .i64 0,.int .i64 0,.int .i64 0] 96)
  refine me (x:=(.slice (some ⟨2*M.nb.size,0,none⟩) 16 16,M.new (.cells #[.int .i64 0,.int .i64 0,.int .i64 0,.int .i64 0,.int .i64 0,.int .i64 0,.int .i64 0,.int .i64 0,.int .i64 0,.int .i64 0,.int .i64 0,.int .i64 0,.int .i64 0,.int .i64 0,.int .i64 0,.int .i64 0,.int .i64 0,.int .i64 0,.int .i64 0,.int .i64 0,.int .i64 0,.int .i64 0,.int .i64 0,.int .i64 0,.int .i64 0,.int .i64 0,.int .i64 0,.int .i64 0,.int .i64 0,.int .i64 0,.int .i64 0,.int .i64 0,.int .i64 0,.int .i64 0,.int .i64 0,.int .i64 0,.int .i64 0,.int .i64 0,.int .i64 0,.int .i64 0,.int .i64 0,.int .i64 0,.int .i64 0,.int .i64 0,.int .i64 0,.int .i64 0,.int .i64 0,.int .i64 0,.int .i64 0,.int .i64 0,.int .i64 0,.int .i64 0,.int .i64 0,.int .i64 0,.int .i64 0,.int .i64 0,.int .i64 0,.int .i64 0,.int .i64 0,.int .i64 0,.int .i64 0,.int .i64 0,.int .i64 0,.int .i64 0] 96))) (by kernel_rfl) (ty rfl (cF (decide_eq_false (by intro h; injection h with h; omega)) ?_))
  obtain ⟨N,q1,q2,q3,q4⟩:=put1 25 (.int .i64 4) S'.a4 (Nat.le_trans S'.fl S'.o4) (show 25<30 by decide) rfl
  have S1:S42 M0 N j2 j3 j4 h { gH A with cb:=4 } X Y:=S'.s4 q2 q4 ⟨rfl,rfl⟩
  have z:=S.K.size
  rw [Mem.new_size] at q3
  exact pt q1 (S1.r4 (jx:=M.nb.size) (X':=List.replicate 16 ⟨0,0,0,0⟩) ⟨z,by omega⟩ ⟨by omega,by omega,by omega⟩ (R.chg q2 fun a ha=>.inr (by obtain rfl:=Option.some.inj ha; show ¬ (2*M.nb.size) / 2=j4; omega)) (by decide) F)
set_option maxHeartbeats 4000000 in
theorem c42 (hf:M.floor≤M.nb.size) (hx:0≤x0∧x0<40):Cn Try.prog 42 #[.int .i64 x0] M (P42 x0 M):=by
  refine w42_0 ?_
  have b2:=Mem.new_at M (.cells zP.cs 41)
  have K1:Keep M (M.new (.cells zP.cs 41)):=.new _ _
  have z1:=Mem.new_size M (.cells zP.cs 41)
  generalize M.new (.cells zP.cs 41)=M1 at b2 K1 z1 ⊢
  refine Cn.mono (c41 (fb hf K1)) ?_
  rintro _ N1 ⟨rfl,K2⟩
  have T2:=K1.trans K2
  have z2:=K2.size
  refine ty rfl (ty rfl (ty rfl (ty rfl (ty rfl (ty rfl (ty rfl (ty rfl (ty rfl (ty rfl (ty rfl (ty rfl (ty rfl (ty rfl (ty rfl (ty rfl (ty rfl (ty rfl (ty rfl (ty rfl (ty rfl (ty rfl (ty rfl (ty rfl (ty rfl (ty rfl (ty rfl (ty rfl (ty rfl (ty rfl (ty rfl  (stN (cs:=uH.cs) (fb hf T2) rfl rfl rfl fun M33 K3 z3 b3=>?_)))))))))))))))))))))))))))))))
  have bx:=Mem.new_at M33 (.cells #[.int .i64 15,.int .i64 3,.int .i64 1,.int .i64 0] 96)
  have K4:Keep M33 (M33.new (.cells #[.int .i64 15,.int .i64 3,.int .i64 1,.int .i64 0] 96)):=.new _ _
  have z4:=Mem.new_size M33 (.cells #[.int .i64 15,.int .i64 3,.int .i64 1,.int .i64 0] 96)
  generalize M33.new (.cells #[.int .i64 15,.int .i64 3,.int .i64 1,.int .i64 0] 96)=M5 at bx K4 z4 ⊢
  have T4:=(T2.trans K3).trans K4
  refine stN (M:=M5) (cs:=(gH (some ⟨2*M33.nb.size,0,none⟩)).cs) (fb hf T4) rfl rfl rfl fun M34 K5 z5 b5=>?_
  have T5:=T4.trans K5
  have hj:M.nb.size≤M33.nb.size∧M33.nb.size≠M.nb.size∧M33.nb.size≠N1.nb.size∧M33.nb.size≠M5.nb.size:=by omega
  have e2:(2*M33.nb.size) / 2=M33.nb.size:=by omega
  have bx:=at_keep bx K5
  have S:S42 M M34 M.nb.size N1.nb.size M5.nb.size uH (gH (some ⟨2*M33.nb.size,0,none⟩)) [] [⟨15,3,1,0⟩]:=by
    refine ⟨T5,hf,by omega,by omega,by omega,at_keep (at_keep b2 K2) ((K3.trans K4).trans K5),at_keep b3 (K4.trans K5),b5,by omega,by omega,by omega,Gt.nil rfl rfl,⟨rfl,(show 1≤16 by decide),row_at bx,fun a ha=>?_⟩,fun a ha=>(by cases ha),fun a ha=>?_⟩
    · obtain rfl:=Option.some.inj ha
      refine ⟨by show (2*M33.nb.size) % 2=0; omega,?_,?_⟩
      · show _≤(2*M33.nb.size) / 2; omega
      · show (2*M33.nb.size) / 2<_; omega
    · obtain rfl:=Option.some.inj ha
      show (2*M33.nb.size) / 2≠_∧(2*M33.nb.size) / 2≠_∧(2*M33.nb.size) / 2≠_
      omega
  refine ce (fun e=>S42.p3 S 15 (.int .i64 1) (h':={ uH with co:=1 }) rfl (by decide) rfl ⟨rfl,rfl⟩ fun R1 S1=>fin42 S1 hx (fun q=>absurd (e.symm.trans q) (by decide))) fun _=>?_
  refine ce (fun e=>S42.p3 S 8 (.int .i64 0) (h':={ uH with pr:=0 }) rfl (by decide) rfl ⟨rfl,rfl⟩ fun R1 S1=>fin42 S1 hx (fun q=>absurd (e.symm.trans q) (by decide))) fun _=>?_
  refine ce (fun e=>S42.p3 S 22 (.int .i64 1) (h':={ uH with sp:=1 }) rfl (by decide) rfl ⟨rfl,rfl⟩ fun R1 S1=>fin42 S1 hx (fun q=>absurd (e.symm.trans q) (by decide))) fun _=>?_
  refine ce (fun e=>S42.p3 S 9 (.int .i64 9) (h':={ uH with ba:=9 }) rfl (by decide) rfl ⟨rfl,rfl⟩ fun R1 S1=>S42.p3 S1 22 (.int .i64 1) (h':={ uH with ba:=9,sp:=1 }) rfl (by decide) rfl ⟨rfl,rfl⟩ fun R2 S2=>fin42 S2 hx (fun q=>absurd (e.symm.trans q) (by decide))) fun _=>?_
  refine ce (fun e=>S42.p3 S 4 (.int .i64 256) (h':={ uH with rf:=256 }) rfl (by decide) rfl ⟨rfl,rfl⟩ fun R1 S1=>fin42 S1 hx (fun q=>absurd (e.symm.trans q) (by decide))) fun _=>?_
  refine ce (fun e=>ix (x:=⟨2*N1.nb.size,7,none⟩) (by kernel_rfl) (S42.p3 S 7 (.int .i64 1) (h':={ uH with r2:=1 }) rfl (by decide) rfl ⟨rfl,rfl⟩ fun R1 S1=>fin42 S1 hx (fun q=>absurd (e.symm.trans q) (by decide)))) fun _=>?_
  refine ce (fun e=>S42.p3 S 1 (.int .i64 1) (h':={ uH with sl:=1 }) rfl (by decide) rfl ⟨rfl,rfl⟩ fun R1 S1=>fin42 S1 hx (fun q=>absurd (e.symm.trans q) (by decide))) fun _=>?_
  refine ce (fun e=>S42.p3 S 9 (.int .i64 (-1)) (h':={ uH with ba:=(-1) }) rfl (by decide) rfl ⟨rfl,rfl⟩ fun R1 S1=>fin42 S1 hx (fun q=>absurd (e.symm.trans q) (by decide))) fun _=>?_
  refine ce (fun e=>S42.p3 S 9 (.int .i64 256) (h':={ uH with ba:=256 }) rfl (by decide) rfl ⟨rfl,rfl⟩ fun R1 S1=>fin42 S1 hx (fun q=>absurd (e.symm.trans q) (by decide))) fun _=>?_
  refine ce (fun e=>ix (x:=⟨2*N1.nb.size,14,none⟩) (by kernel_rfl) (S42.p3 S 14 (.int .i64 (-31)) (h':={ uH with d4:=(-31) }) rfl (by decide) rfl ⟨rfl,rfl⟩ fun R1 S1=>fin42 S1 hx (fun _=>⟨rfl,rfl,rfl⟩))) fun _=>?_
  refine ce (fun e=>ix (x:=⟨2*N1.nb.size,10,none⟩) (by kernel_rfl) (S42.p3 S 10 (.int .i64 32) (h':={ uH with d0:=32 }) rfl (by decide) rfl ⟨rfl,rfl⟩ fun R1 S1=>fin42 S1 hx (fun q=>absurd (e.symm.trans q) (by decide)))) fun _=>?_
  refine ce (fun e=>S42.p3 S 16 (.int .i64 3) (h':={ uH with ro:=3 }) rfl (by decide) rfl ⟨rfl,rfl⟩ fun R1 S1=>fin42 S1 hx (fun q=>absurd (e.symm.trans q) (by decide))) fun _=>?_
  refine ce (fun e=>S42.p3 S 0 (.bool true) (h':={ uH with ex:=true }) rfl (by decide) rfl ⟨rfl,rfl⟩ fun R1 S1=>fin42 S1 hx (fun q=>absurd (e.symm.trans q) (by decide))) fun _=>?_
  refine ce (fun e=>S42.st3 S (h':={ zP with ex:=true,sl:=7 }) ⟨rfl,rfl⟩ fun R1 S1=>fin42 S1 hx (fun q=>absurd (e.symm.trans q) (by decide))) fun _=>?_
  refine ce (fun e=>S42.st3 S (h':={ zP with ex:=true,sl:=8 }) ⟨rfl,rfl⟩ fun R1 S1=>fin42 S1 hx (fun q=>absurd (e.symm.trans q) (by decide))) fun _=>?_
  refine ce (fun e=>ix (x:=⟨2*N1.nb.size,27,none⟩) (by kernel_rfl) (S42.p3 S 27 (.bool true) (h':={ uH with x0:=true }) rfl (by decide) rfl ⟨rfl,rfl⟩ fun R1 S1=>fin42 S1 hx (fun q=>absurd (e.symm.trans q) (by decide)))) fun _=>?_
  refine ce (fun e=>k16 S fun R1 S1=>fin42 S1 hx (fun q=>absurd (e.symm.trans q) (by decide))) fun _=>?_
  refine ce (fun e=>S42.p3 S 15 (.int .i64 2) (h':={ uH with co:=2 }) rfl (by decide) rfl ⟨rfl,rfl⟩ fun R1 S1=>S42.p3 S1 16 (.int .i64 2) (h':={ uH with co:=2,ro:=2 }) rfl (by decide) rfl ⟨rfl,rfl⟩ fun R2 S2=>fin42 S2 hx (fun q=>absurd (e.symm.trans q) (by decide))) fun _=>?_
  refine ce (fun e=>S42.p3 S 15 (.int .i64 (-1)) (h':={ uH with co:=(-1) }) rfl (by decide) rfl ⟨rfl,rfl⟩ fun R1 S1=>fin42 S1 hx (fun q=>absurd (e.symm.trans q) (by decide))) fun _=>?_
  refine ce (fun e=>S42.st3 S (h':={ zP with ex:=true,ke:=true }) ⟨rfl,rfl⟩ fun R1 S1=>fin42 S1 hx (fun q=>absurd (e.symm.trans q) (by decide))) fun _=>?_
  refine ce (fun e=>S42.p4 S 24 (.int .i64 7) (g':={ gH (some ⟨2*M33.nb.size,0,none⟩) with da:=7 }) rfl (by decide) rfl ⟨rfl,rfl⟩ fun R1 S1=>fin42 S1 hx (fun q=>absurd (e.symm.trans q) (by decide))) fun _=>?_
  refine ce (fun e=>S42.p4 S 24 (.int .i64 2) (g':={ gH (some ⟨2*M33.nb.size,0,none⟩) with da:=2 }) rfl (by decide) rfl ⟨rfl,rfl⟩ fun R1 S1=>fin42 S1 hx (fun q=>absurd (e.symm.trans q) (by decide))) fun _=>?_
  refine ce (fun e=>S42.p4 S 25 (.int .i64 1) (g':={ gH (some ⟨2*M33.nb.size,0,none⟩) with cb:=1 }) rfl (by decide) rfl ⟨rfl,rfl⟩ fun R1 S1=>fin42 S1 hx (fun q=>absurd (e.symm.trans q) (by decide))) fun _=>?_
  refine ce (fun e=>k24 S bx hj 1 4 [⟨15,4,1,0⟩] rfl rfl (by decide) fun R1 S1=>fin42 S1 hx (fun q=>absurd (e.symm.trans q) (by decide))) fun _=>?_
  refine ce (fun e=>k24 S bx hj 2 16 [⟨15,3,16,0⟩] rfl rfl (by decide) fun R1 S1=>fin42 S1 hx (fun q=>absurd (e.symm.trans q) (by decide))) fun _=>?_
  refine ce (fun e=>⟨rfl,S42.p4 S 18 (.int .i64 63) (g':={ gH (some ⟨2*M33.nb.size,0,none⟩) with l0:=63 }) rfl (by decide) rfl ⟨rfl,rfl⟩ fun R1 S1=>S42.p4 S1 19 (.int .i64 0) (g':={ gH (some ⟨2*M33.nb.size,0,none⟩) with l0:=63,l1:=0 }) rfl (by decide) rfl ⟨rfl,rfl⟩ fun R2 S2=>S42.p4 S2 20 (.int .i64 1) (g':={ gH (some ⟨2*M33.nb.size,0,none⟩) with l0:=63,l1:=0,l2:=1 }) rfl (by decide) rfl ⟨rfl,rfl⟩ fun R3 S3=>S42.p4 S3 21 (.int .i64 2) (g':={ gH (some ⟨2*M33.nb.size,0,none⟩) with l0:=63,l1:=0,l2:=1,l3:=2 }) rfl (by decide) rfl ⟨rfl,rfl⟩ fun R4 S4=>fin42 S4 hx (fun q=>absurd (e.symm.trans q) (by decide))⟩) fun _=>?_
  refine ce (fun e=>ix (x:=⟨2*M5.nb.size,21,none⟩) (by kernel_rfl) (S42.p4 S 21 (.int .i64 64) (g':={ gH (some ⟨2*M33.nb.size,0,none⟩) with l3:=64 }) rfl (by decide) rfl ⟨rfl,rfl⟩ fun R1 S1=>fin42 S1 hx (fun q=>absurd (e.symm.trans q) (by decide)))) fun _=>?_
  refine ce (fun e=>S42.p4 S 22 (.int .i64 8) (g':={ gH (some ⟨2*M33.nb.size,0,none⟩) with sp:=8 }) rfl (by decide) rfl ⟨rfl,rfl⟩ fun R1 S1=>fin42 S1 hx (fun q=>absurd (e.symm.trans q) (by decide))) fun _=>?_
  refine ce (fun e=>S42.p4 S 23 (.bool false) (g':={ gH (some ⟨2*M33.nb.size,0,none⟩) with cd:=false }) rfl (by decide) rfl ⟨rfl,rfl⟩ fun R1 S1=>fin42 S1 hx (fun q=>absurd (e.symm.trans q) (by decide))) fun _=>?_
  refine ce (fun e=>ix (x:=⟨2*M5.nb.size,5,none⟩) (by kernel_rfl) (S42.p4 S 5 (.int .i64 8) (g':={ gH (some ⟨2*M33.nb.size,0,none⟩) with r0:=8 }) rfl (by decide) rfl ⟨rfl,rfl⟩ fun R1 S1=>fin42 S1 hx (fun q=>absurd (e.symm.trans q) (by decide)))) fun _=>?_
  refine ce (fun e=>S42.p4 S 8 (.int .i64 8) (g':={ gH (some ⟨2*M33.nb.size,0,none⟩) with pr:=8 }) rfl (by decide) rfl ⟨rfl,rfl⟩ fun R1 S1=>fin42 S1 hx (fun q=>absurd (e.symm.trans q) (by decide))) fun _=>?_
  refine ce (fun e=>S42.p4 S 8 (.int .i64 (-2)) (g':={ gH (some ⟨2*M33.nb.size,0,none⟩) with pr:=(-2) }) rfl (by decide) rfl ⟨rfl,rfl⟩ fun R1 S1=>fin42 S1 hx (fun q=>absurd (e.symm.trans q) (by decide))) fun _=>?_
  refine ce (fun e=>S42.p4 S 8 (.int .i64 (-1)) (g':={ gH (some ⟨2*M33.nb.size,0,none⟩) with pr:=(-1) }) rfl (by decide) rfl ⟨rfl,rfl⟩ fun R1 S1=>fin42 S1 hx (fun q=>absurd (e.symm.trans q) (by decide))) fun _=>?_
  refine ce (fun e=>k34 S fun R1 S1=>fin42 S1 hx (fun q=>absurd (e.symm.trans q) (by decide))) fun _=>?_
  refine ce (fun e=>k35 S fun R1 S1=>fin42 S1 hx (fun q=>absurd (e.symm.trans q) (by decide))) fun _=>?_
  refine ce (fun e=>S42.p4 S 17 (.bool true) (g':={ gH (some ⟨2*M33.nb.size,0,none⟩) with na:=true }) rfl (by decide) rfl ⟨rfl,rfl⟩ fun R1 S1=>S42.p4 S1 2 (.bool true) (g':={ gH (some ⟨2*M33.nb.size,0,none⟩) with na:=true,sh:=true }) rfl (by decide) rfl ⟨rfl,rfl⟩ fun R2 S2=>fin42 S2 hx (fun q=>absurd (e.symm.trans q) (by decide))) fun _=>?_
  exact fin42 S hx (fun _=>⟨rfl,rfl,rfl⟩)
end
end Go.Zt

/- Layer 20: HeadsBack: what was written is read again. -/
set_option linter.unusedSimpArgs false
set_option linter.unusedVariables false
set_option maxRecDepth 100000
namespace Go.Zt
open Go Go.Sim Go.Proofs Go.RowKit
theorem wo_eq {h g:Hd} (hw:wo h=wo g) (hn:h.n=g.n):g={ h with A:=g.A,c:=g.c }:=by
  cases h
  cases g
  simp only [wo,Hd.mk.injEq] at hw
  simp only at hn
  simp [hw,hn]
abbrev hB (x:Hd × List Sg):List Nat:=hBits x.1 x.2
section
variable {U V:Nat→Prop} {M N M0:Mem} {jd js jw:Nat} {b:List Nat} {w e:Int} {Ks Hs:List (Hd × List Sg)} {Ax:Option Addr} {cx z p:Nat} {l:List Nat}
theorem e6_5 (hm:mayS w e=true) (hal:rAlign b z=(0,8*b.length)) (hbl:b.length≤4294967296) (good:∀ x ∈ Ks,Gd M0 1048576 x∧x.1.may x.2 w e=true) (hK:Ks.length≤1048576):
    ∀ (q i:Nat) {U:Nat→Prop} {M:Mem} {p:Nat},i+q=Ks.length→At b z p ((Ks.drop i).flatMap hB ++ [1])→Rdr U M jd b p→M.floor≤jd→M.floor≤M.nb.size→(∀ i,U i→M.floor≤i∧i<M.nb.size)→jd<M.nb.size→
      M.nb[js]?=some (.cells #[.int .i64 w,.int .i64 e] 23)→¬ U js∧js≠jd→Row M Ax (Hds Ks)→(∀ a,Ax=some a→¬ U (a.block / 2)∧a.block / 2≠jd∧a.block / 2<M.nb.size)→(∀ x ∈ Ks,Row M x.1.A (Sgs x.2))→
      A6_5 (some ⟨2*js,0,none⟩) Ax Ks.length cx (some ⟨2*jd,0,none⟩) (i:Int) M fun v _=>v=.bool true
  | 0,i,U,M,p,hi,hA,D,fd,fs,fu,ld,s,ns,hR,hF,hX=>by
    rw [List.drop_of_length_le (by omega)] at hA
    simp only [List.flatMap_nil,List.nil_append] at hA
    have hA':At b z p (bitsN 1 1 ++ []):=hA
    obtain ⟨r1,r2⟩:=hA'.fixed (by decide) (by decide)
    have r1':rFixed b p 1=(1,0,p+1):=r1
    have hz:p+1=z:=by have:=hA.len; simpa using this
    refine w6_5 (cF (decide_eq_false (by show ¬ (i:Int)<(Ks.length:Int); omega)) (Cn.mono (c33 D fd 1) ?_))
    rw [r1']
    rintro _ N ⟨rfl,C,zN,D1⟩
    refine ty rfl (ty rfl (ty rfl (cT rfl (w6_7 (cT rfl (Cn.mono (c40 D1 (by rw [C.floor]; exact fd)) ?_))))))
    have hz':(1,0,p+1).2.2=z:=hz
    rw [show ((1,0,p+1):Nat × Nat × Nat).2.2=z from hz,hal]
    rintro _ N2 ⟨rfl,C2,zN2,D2⟩
    refine ty rfl (w6_8 (cT rfl (Cn.eq (c37 D2) (ty rfl ?_))))
    simp
  | q+1,i,U,M,p,hi,hA,D,fd,fs,fu,ld,s,ns,hR,hF,hX=>by
    have hlt:i<Ks.length:=by omega
    rw [List.drop_eq_getElem_cons hlt,List.flatMap_cons,List.append_assoc] at hA
    have gx:=good Ks[i] (List.getElem_mem hlt)
    refine w6_5 (cT (decide_eq_true (by show (i:Int)<(Ks.length:Int); omega)) (ad rfl (on (int_of s rfl) (on (int_of s rfl) (Cn.mono (c35 D fd fs (fun i hi=>(fu i hi).1) fun i hi=>(fu i hi).2) ?_)))))
    rw [if_pos hm]
    rintro _ N ⟨U',c,X,hT,sub,C,dv,ub,res⟩
    obtain ⟨p',c1,c2,c3,c4,hA'⟩:=head_a hA gx.2 hT
    rcases res with ⟨h0,_⟩ | ⟨_,rfl,hn,hRX,hAX⟩
    · exact absurd c2 h0
    subst c4
    rw [c1] at dv
    have D':Rdr U' N jd b p':=dv
    have CC:Chg (fun i=>U i∨i=jd) M N:=C.mono fun i hi h=>by rcases h with h | h | h <;> first | exact .inl h | exact .inr h | omega
    have sN:=at_chg s CC fun h=>h.elim ns.1 ns.2
    have RN:=hR.chg CC fun a ha=>.inr fun h=>h.elim (hF a ha).1 (hF a ha).2.1
    have XN:∀ x ∈ Ks,Row N x.1.A (Sgs x.2):=fun x hx=>(hX x hx).old (good x hx).1.2.2.2.1 CC
    have zN:=CC.size
    refine ty rfl (ty rfl ?_)
    refine ty rfl (ty rfl (ty rfl (ty rfl (ty rfl (ty rfl (ty rfl (ty rfl (ty rfl (ty rfl (ty rfl (ty rfl (ty rfl (ty rfl (ty rfl (ty rfl (ty rfl (ty rfl (ty rfl (ty rfl (ty rfl (ty rfl (ty rfl (ty rfl (ty rfl (ty rfl (ty rfl (ty rfl (ty rfl (ty rfl (?_))))))))))))))))))))))))))))))
    refine ty rfl (stN (cs:=c.2.2.cs) (by rw [CC.floor]; omega) rfl rfl rfl fun N2 K2 z2 b2=>cF rfl (on30 (hdAt b2) ?_))
    obtain ⟨a,g1,g2⟩:=Hds.elt (RN.keep K2) (n:=Ks.length) (i:=i) (z:=(i:Int)) rfl hlt hlt
    refine ix g1 (on30 g2 ?_)
    have hx:Ks[i].1={ c.2.2 with A:=Ks[i].1.A,c:=Ks[i].1.c }:=wo_eq c3 (by rw [hn,gx.1.1])
    have hR':=(XN Ks[i] (List.getElem_mem hlt)).keep K2
    generalize Ks[i].1.A=A',Ks[i].1.c=cc at hx hR'
    rw [hx]
    refine Cn.mono (c39 (A':=A') (c':=cc) hn (by rw [hn]; have:=gx.1.1; have:=gx.1.2.2.1; omega) (hRX.keep K2) hR') ?_
    rintro _ N3 ⟨rfl,K3⟩
    have K23:=K2.trans K3
    refine ty rfl (w6_6 (cF rfl ?_))
    rw [i64w (by omega)]
    exact e6_5 hm hal hbl good hK q (i+1) (by omega) hA' (D'.keep K23) (by rw [K23.floor,CC.floor]; exact fd) (by rw [K23.floor,CC.floor]; have:=K23.size; omega) (fun i hi=>by
      have h1:=ub i hi
      have h2:=K23.size
      rw [K23.floor,CC.floor]
      rcases sub i hi with h | h
      · exact ⟨(fu i h).1,by omega⟩
      · omega) (by have:=K23.size; omega) (at_keep sN K23) ⟨fun h=>(sub js h).elim ns.1 fun q=>by have:=lt_of_at s; omega,ns.2⟩ (RN.keep K23) (fun a ha=>⟨fun h=>(sub _ h).elim (hF a ha).1 fun q=>by have:=(hF a ha).2.2; omega,(hF a ha).2.1,by have:=(hF a ha).2.2; have:=K23.size; omega⟩) fun x hx=>(XN x hx).keep K23
end
end Go.Zt

/- Layer 20: HeadsBack: the writing loop and the law. -/
set_option linter.unusedSimpArgs false
set_option linter.unusedVariables false
set_option maxRecDepth 100000
namespace Go.Zt
open Go Go.Sim Go.Proofs Go.RowKit
theorem bI_len (v:Int) (n:Nat):(bI v n).length=n:=bitsN_len _ _
theorem dBits_len (v:Int):(dBits v).length≤7:=by
  unfold dBits
  split <;> simp [bitsN_len]
theorem sBits_len (X:List Sg):(X.flatMap sBits).length=12*X.length:=by
  induction X with
  | nil=>rfl
  | cons x X ih=>simp only [List.flatMap_cons,List.length_append,ih,List.length_cons]; simp [sBits,bI_len]; omega
theorem hBits_len (h:Hd) (X:List Sg):(hBits h X).length≤200+12*X.length:=by
  have d0:=dBits_len h.d0
  have d1:=dBits_len h.d1
  have d2:=dBits_len h.d2
  have d3:=dBits_len h.d3
  have d4:=dBits_len h.d4
  have f:(fBits h X).length≤50+12*X.length:=by
    unfold fBits
    simp only [List.length_append,bI_len,List.length_cons,List.length_nil]
    split
    · simp only [List.length_append,bI_len,sBits_len]; omega
    · simp only [List.length_nil]; omega
  have r:(rBits h).length≤20:=by
    unfold rBits
    split
    · simp
    · simp only [List.length_append,bI_len,List.length_cons,List.length_nil]
      split <;> simp [bI_len]
  have t:(tBits h X).length≤100+12*X.length:=by
    unfold tBits
    simp only [List.length_append,bI_len,List.length_cons,List.length_nil]
    split
    · simp only [List.length_nil]; omega
    · omega
  unfold hBits
  simp only [List.length_append,List.length_cons,List.length_nil]
  split
  · simp [bI_len]; omega
  · simp only [List.length_append,List.length_cons,List.length_nil,bI_len]; omega
section
variable {U V:Nat→Prop} {M N M0:Mem} {jd js jw:Nat} {b:List Nat} {w e:Int} {Ks Hs:List (Hd × List Sg)} {Ah Ax:Option Addr} {nh ch cx z p:Nat} {l:List Nat}
theorem end6 (hm:mayS w e=true) (W:Ws U M jw (Ks.flatMap hB)) (hl:(Ks.flatMap hB).length≤10000) (O:Own V M 41 Ax (cx*30) (Hds Ks)) (dV:∀ i,V i→¬ U i∧i≠jw∧i<M.nb.size) (s:M.nb[js]?=some (.cells #[.int .i64 w,.int .i64 e] 23)) (ns:¬ U js∧js≠jw)
    (good:∀ x ∈ Ks,Gd M0 1048576 x∧x.1.may x.2 w e=true) (hX:∀ x ∈ Ks,Row M x.1.A (Sgs x.2)) (hK:Ks.length≤8) (i:Int):
    A6_3 Ah nh ch (some ⟨2*js,0,none⟩) (some ⟨2*jw,0,none⟩) Ax Ks.length cx i false M fun v _=>v=.bool true:=by
  refine w6_3 (cF rfl (Cn.mono (c22 W.flw W.dev (v:=1) (y:=1) rfl (by decide) 1 (by omega)) ?_))
  have e1:wFixed (Ks.flatMap hB) 1 1=(0,Ks.flatMap hB ++ [1]):=by
    unfold wFixed; rw [if_neg (by decide)]; rfl
  rw [e1]
  rintro _ M1 ⟨rfl,C1,D1⟩
  obtain ⟨U1,E1,W1⟩:=W.of C1 D1
  have s1:=E1.at s ns.1 ns.2
  have lw:=W.lt
  have O1:Own V M1 41 Ax (cx*30) (Hds Ks):=O.chg E1.chg fun i hi hv hh=>hh.elim (dV i hv).1 (dV i hv).2.1
  refine ty rfl (Cn.mono (c28 W1.dev W1.fs) ?_)
  rintro _ M2 ⟨A2,c2,rfl,K2,O2,_⟩
  have bl:=W1.dev.len
  have pl:=pack_len (Ks.flatMap hB ++ [1])
  have hbin:=W1.dev.bin
  have hByt:Byt (pack (Ks.flatMap hB ++ [1])):=fun x hx=>by
    unfold pack at hx
    obtain ⟨q,_,rfl⟩:=List.mem_map.1 hx
    exact gbyte_lt hbin q
  have l1:(Ks.flatMap hB ++ [1]).length≤10001:=by simp; simpa using hl
  have pl2:(pack (Ks.flatMap hB ++ [1])).length≤4294967296:=by rw [pack_len]; omega
  refine ty rfl (Cn.mono (c31 (fb W1.fs K2) O2.row rfl pl2 hByt) ?_)
  rintro _ M3 ⟨jd,rfl,K3,d1,d2,D⟩
  have K13:=K2.trans K3
  have z1:=E1.chg.size
  have z2:=K2.size
  have f3:M3.floor≤M1.nb.size:=by rw [K13.floor]; exact W1.fs
  have O3:=O1.chg K13 fun _ _ _ h=>h
  have hal:=align_pack hbin
  refine ty rfl (e6_5 (M0:=M0) (b:=pack (Ks.flatMap hB ++ [1])) (z:=(Ks.flatMap hB ++ [1]).length) (p:=0) hm hal pl2 good (by omega) Ks.length 0 (by omega) (by simpa using At.pack hbin) D (by omega) (by omega) (fun i hi=>by omega) d2 (at_keep s1.1 K13) ⟨fun h=>by have:=lt_of_at s; omega,by have:=lt_of_at s; omega⟩ O3.row (fun a ha=>?_) fun x hx=>(hX x hx).old (good x hx).1.2.2.2.1 (E1.chg.trans (K13.mono fun i _ h=>h.elim)))
  have h1:=O3.in_ a ha
  have h2:=(dV _ h1.2).2.2
  omega
end
end Go.Zt

/- Layer 20: HeadsBack: the law. -/
set_option linter.unusedSimpArgs false
set_option linter.unusedVariables false
set_option maxRecDepth 100000
namespace Go.Zt
open Go Go.Sim Go.Proofs Go.RowKit
theorem neq23 (a b:Int):binV Try.prog .neq 23 23 (.agg #[.int .i64 a,.int .i64 b]) (.agg #[.int .i64 a,.int .i64 b])=some (.bool false):=by
  obtain ⟨z,h1,h2,h3⟩:=binV_eqA (P:=Try.prog) (k:=3) (t:=23) (tb:=23) (xs:=[.int .i64 a,.int .i64 b]) (ys:=[.int .i64 a,.int .i64 b]) (by decide) (by kernel_rfl) (by kernel_rfl) (by kernel_rfl) (by kernel_rfl) (by kernel_rfl) rfl rfl
  rw [h3.2 rfl] at h2
  exact h2
section
variable {M:Mem} {w e:Int} {Ah:Option Addr} {nh ch:Nat} {Hs:List (Hd × List Sg)}
end
end Go.Zt

/- Layer 20: HeadsNames: HeadsBack of a list that stands in new memory. -/
set_option linter.unusedSimpArgs false
set_option linter.unusedVariables false
set_option maxRecDepth 100000
namespace Go.Zt
open Go Go.Sim Go.Proofs Go.RowKit
section
variable {U V:Nat→Prop} {M N M0:Mem} {jd js jw:Nat} {b:List Nat} {w e:Int} {Ks Hs:List (Hd × List Sg)} {Ah Ax:Option Addr} {nh ch cx z p:Nat} {l:List Nat}
theorem e6_2k (hm:mayS w e=true) (hH:∀ x ∈ Hs,Gd M0 1048576 x) {lo:Nat} (hO:∀ a,Ah=some a→a.block % 2=1∨a.block / 2<lo) (low:lo≤jw) (hn:Hs.length≤1048576):
    ∀ (q i:Nat) {U V:Nat→Prop} {M:Mem} {Ks:List (Hd × List Sg)} {Ax:Option Addr} {cx:Nat},i+q=Hs.length→Ks.length≤i→i≤8→Ws U M jw (Ks.flatMap hB)→(Ks.flatMap hB).length≤1000*i→Own V M 41 Ax (cx*30) (Hds Ks)→(∀ i,V i→¬ U i∧i≠jw∧i<M.nb.size∧M.floor≤i)→(∀ i,U i∨V i→lo≤i)→lo≤M.nb.size→
      M.nb[js]?=some (.cells #[.int .i64 w,.int .i64 e] 23)→¬ U js∧js≠jw∧¬ V js→Row M Ah (Hds Hs)→(∀ x ∈ Hs,Row M x.1.A (Sgs x.2))→(∀ x ∈ Ks,Gd M0 1048576 x∧x.1.may x.2 w e=true)→(∀ x ∈ Ks,Row M x.1.A (Sgs x.2))→
      A6_2 Ah Hs.length ch (some ⟨2*js,0,none⟩) (some ⟨2*jw,0,none⟩) Ax Ks.length cx (i:Int) M fun v _=>v=.bool true
  | 0,i,U,V,M,Ks,Ax,cx,hi,hk,h8,W,hl,O,dV,lb,ls,s,ns,hR,hX,good,hY=>by
    refine w6_2 (cF (decide_eq_false (by show ¬ (i:Int)<(Hs.length:Int); omega)) ?_)
    exact end6 hm W (by omega) O (fun i hi=>⟨(dV i hi).1,(dV i hi).2.1,(dV i hi).2.2.1⟩) s ⟨ns.1,ns.2.1⟩ good hY (by omega) _
  | q+1,i,U,V,M,Ks,Ax,cx,hi,hk,h8,W,hl,O,dV,lb,ls,s,ns,hR,hX,good,hY=>by
    have hlt:i<Hs.length:=by omega
    refine w6_2 (cT (decide_eq_true (by show (i:Int)<(Hs.length:Int); omega)) ?_)
    by_cases h7:i<8
    · rw [decide_eq_true (show (i:Int)<8 by omega)]
      have gx:=hH Hs[i] (List.getElem_mem hlt)
      obtain ⟨a,g1,g2⟩:=Hds.elt hR (n:=Hs.length) (i:=i) (z:=(i:Int)) rfl hlt hlt
      refine w6_3 (cT rfl (ix g1 (on30 g2 (ad rfl (on (int_of s rfl) (on (int_of s rfl) (Cn.mono (c24 (h:=Hs[i].1) (X:=Hs[i].2) W (by omega) gx.1 gx.2.2.1 (hX _ (List.getElem_mem hlt)) (fun a ha=>.inl (gx.2.2.2.1 a ha))) ?_)))))))
      rintro _ N ⟨rfl,U1,E1,W1⟩
      have sN:=E1.at s ns.1 ns.2.1
      have zN':=E1.chg.size
      have lb1:∀ i,U1 i∨V i→lo≤i:=fun i hi=>by
        rcases hi with h | h
        · rcases E1.sub i h with h | h
          · exact lb i (.inl h)
          · omega
        · exact lb i (.inr h)
      have RN:=hR.chg E1.chg fun a ha=>(hO a ha).imp id fun q h=>by
        rcases h with h | h
        · have:=lb _ (.inl h); omega
        · omega
      have XN:∀ x ∈ Hs,Row N x.1.A (Sgs x.2):=fun x hx=>(hX x hx).old (hH x hx).2.2.2.1 E1.chg
      have YN:∀ x ∈ Ks,Row N x.1.A (Sgs x.2):=fun x hx=>(hY x hx).old (good x hx).1.2.2.2.1 E1.chg
      have ON:Own V N 41 Ax (cx*30) (Hds Ks):=O.chg E1.chg fun i hi hv hh=>hh.elim (dV i hv).1 (dV i hv).2.1
      have zN:=E1.chg.size
      obtain ⟨a',g1',g2'⟩:=Hds.elt RN (n:=Hs.length) (i:=i) (z:=(i:Int)) rfl hlt hlt
      refine ty rfl (ix g1' (on30 g2' (ad rfl (on (int_of sN.1 rfl) (on (int_of sN.1 rfl) (Cn.mono (c26 (h:=Hs[i].1) (X:=Hs[i].2) W1.fs gx.1 gx.2.2.1 (XN _ (List.getElem_mem hlt))) ?_))))))
      rintro _ N2 ⟨rfl,K2⟩
      have W2:=W1.keep K2
      have z2:=K2.size
      refine ty rfl (cF (by simp) ?_)
      have dV2:∀ i,V i→¬ U1 i∧i≠jw∧i<N2.nb.size∧N2.floor≤i:=fun i hi=>by
        obtain ⟨v1,v2,v3,v4⟩:=dV i hi
        refine ⟨fun h=>(E1.sub i h).elim v1 fun q=>by omega,v2,by omega,?_⟩
        rw [K2.floor,E1.chg.floor]; exact v4
      have s2:=at_keep sN.1 K2
      have R2:=RN.keep K2
      have X2:∀ x ∈ Hs,Row N2 x.1.A (Sgs x.2):=fun x hx=>(XN x hx).keep K2
      have Y2:∀ x ∈ Ks,Row N2 x.1.A (Sgs x.2):=fun x hx=>(YN x hx).keep K2
      have O2:=ON.chg K2 fun _ _ _ h=>h
      cases hmy:Hs[i].1.may Hs[i].2 w e with
      | false=>
        have ew:wB Hs[i].1 Hs[i].2 w e=[]:=by unfold wB; rw [hmy]; rfl
        rw [ew,List.append_nil] at W2
        refine cF rfl (w6_4 ?_)
        rw [i64w (by omega)]
        exact e6_2k hm hH hO low hn q (i+1) (by omega) (by omega) (by omega) W2 (by omega) O2 dV2 lb1 (by omega) s2 ⟨sN.2,ns.2.1,ns.2.2⟩ R2 X2 good Y2
      | true=>
        have ew:wB Hs[i].1 Hs[i].2 w e=hBits Hs[i].1 Hs[i].2:=by unfold wB; rw [hmy]; rfl
        rw [ew] at W2
        obtain ⟨a3,g3,g4⟩:=Hds.elt R2 (n:=Hs.length) (i:=i) (z:=(i:Int)) rfl hlt hlt
        refine cT rfl (ix g3 (on30 g4 ?_))
        have lx:=may_len hmy
        have hb2:=hBits_len Hs[i].1 Hs[i].2
        generalize hgx:Hs[i]=x at gx hmy ew W2 lx hb2 g4 ⊢
        have K3:Keep N2 (N2.new (.cells x.1.cs.toList.toArray 41)):=.new _ _
        have n3:=Mem.new_size N2 (.cells x.1.cs.toList.toArray 41)
        have O3:=O2.chg K3 fun _ _ _ h=>h
        have r3:=Row.new N2 41 x.1.cs.toList
        obtain ⟨A4,c4,M4,p4,C4,O4,hc4⟩:=append_own elem67 (S:=fun j=>V j∨N2.nb.size≤j) (O3.mono fun _ _ h=>.inl h) (n:=Ks.length) (by rw [Hds_len]; omega) r3 (k:=1) (cx:=1) rfl rfl (fun j hj=>by
          rw [K3.floor]
          have:=W2.fs
          rcases hj with h | h
          · exact (dV2 j h).2.2.2
          · omega) (by rw [n3]; exact .inr (by omega)) (by omega)
        refine me p4 (ty rfl (w6_4 ?_))
        rw [i64w (by omega)]
        have C24:Chg (fun j=>V j∨N2.nb.size≤j) N2 M4:=(K3.mono fun _ _ h=>h.elim).trans C4
        have z4:=C24.size
        have lw:=W2.lt
        have ls:=lt_of_at s2
        have kl:(Ks ++ [x]).length=Ks.length+1:=by simp
        have W4:Ws U1 M4 jw ((Ks ++ [x]).flatMap hB):=by
          rw [List.flatMap_append,List.flatMap_cons,List.flatMap_nil,List.append_nil]
          exact W2.chg C24 fun i hi hu hh=>by
            rcases hh with hh | hh
            · rcases hu with hu | hu
              · exact (dV2 i hh).1 hu
              · exact (dV2 i hh).2.1 hu
            · omega
        have O4':Own (fun j=>V j∨(N2.nb.size≤j∧j<M4.nb.size)) M4 41 A4 (c4*30) (Hds (Ks ++ [x])):=by
          have:Hds (Ks ++ [x])=Hds Ks ++ x.1.cs.toList:=by simp [Hds,List.flatMap_append]
          rw [this]
          exact O4.mono fun j hj h=>h.imp id fun q=>⟨q,hj⟩
        have mem:x ∈ Hs:=by rw [← hgx]; exact List.getElem_mem hlt
        have:=e6_2k hm hH hO low hn q (i+1) (Ks:=Ks ++ [x]) (by omega) (by omega) (by omega) W4 (by rw [List.flatMap_append,List.length_append]; simp only [List.flatMap_cons,List.flatMap_nil,List.append_nil]; have:(hB x).length=(hBits x.1 x.2).length:=rfl; omega) O4' (fun j hj=>by
          rcases hj with h | h
          · obtain ⟨v1,v2,v3,v4⟩:=dV2 j h
            exact ⟨v1,v2,by omega,by rw [C24.floor]; exact v4⟩
          · exact ⟨fun hu=>by have:=W2.ub j hu; omega,by omega,h.2,by rw [C24.floor]; have:=W2.fs; omega⟩) (fun j hj=>by
          rcases hj with h | h | h
          · exact lb1 j (.inl h)
          · exact lb1 j (.inr h)
          · omega) (by omega) (at_chg s2 C24 fun h=>h.elim ns.2.2 fun q=>by omega) ⟨sN.2,ns.2.1,fun h=>h.elim ns.2.2 fun q=>by omega⟩ (R2.chg C24 fun a ha=>(hO a ha).imp id fun q h=>by
          rcases h with h | h
          · have:=lb _ (.inr h); omega
          · omega) (fun y hy=>(X2 y hy).old (hH y hy).2.2.2.1 C24) (fun y hy=>by
          rcases List.mem_append.1 hy with h | h
          · exact good y h
          · rw [List.mem_singleton.1 h]; exact ⟨gx,hmy⟩) (fun y hy=>by
          rcases List.mem_append.1 hy with h | h
          · exact (Y2 y h).old (good y h).1.2.2.2.1 C24
          · rw [List.mem_singleton.1 h]; exact (X2 x mem).old gx.2.2.2.1 C24)
        rw [kl] at this
        exact this
    · rw [decide_eq_false (show ¬ (i:Int)<8 by omega)]
      exact end6 hm W (by omega) O (fun i hi=>⟨(dV i hi).1,(dV i hi).2.1,(dV i hi).2.2.1⟩) s ⟨ns.1,ns.2.1⟩ good hY (by omega) _
end
section
variable {M:Mem} {w e:Int} {Ah:Option Addr} {nh ch:Nat} {Hs:List (Hd × List Sg)}
theorem c6k (hf:M.floor≤M.nb.size) (hR:Row M Ah (Hds Hs)) (hn:nh=Hs.length) (hb:nh≤1048576) (hO:∀ a,Ah=some a→a.block % 2=1∨a.block / 2<M.nb.size) (hH:∀ x ∈ Hs,Gd M 1048576 x):
    Cn Try.prog 6 #[.slice Ah nh ch,.agg #[.int .i64 w,.int .i64 e]] M fun v _=>v=.bool true:=by
  subst hn
  have s:=Mem.new_at M (.cells #[.int .i64 w,.int .i64 e] 23)
  have K1:Keep M (M.new (.cells #[.int .i64 w,.int .i64 e] 23)):=.new _ _
  have s1:=Mem.new_size M (.cells #[.int .i64 w,.int .i64 e] 23)
  refine w6_0 (Cn.known (by rfl) (ty rfl (cF rfl ?_)))
  generalize M.new (.cells #[.int .i64 w,.int .i64 e] 23)=M1 at s K1 s1 ⊢
  refine on (int_of (i:=0) s rfl) (on (int_of (i:=0+1) s rfl) (Cn.mono c14 ?_))
  rintro _ M2 ⟨rfl,K2⟩
  have T2:=K1.trans K2
  have a2:=at_keep s K2
  refine ty rfl (cne (fun hm=>on (int_of (i:=0) a2 rfl) (on (int_of (i:=0+1) a2 rfl) (Cn.mono (c10 (fb hf T2)) ?_))) fun hm=>on (int_of (i:=0) a2 rfl) (on (int_of (i:=0+1) a2 rfl) (Cn.mono (c10 (fb hf T2)) ?_)))
  · have e2:chkS w e=2:=by
      unfold chkS at hm ⊢
      split
      · rename_i h; rw [if_pos h] at hm; exact absurd rfl hm
      · rfl
    rintro _ M3 ⟨K3,A3,c3,rfl,R3⟩
    refine ty rfl (ty rfl (ty rfl ?_))
    rw [e2]; rfl
  · have hm':mayS w e=true:=by
      unfold chkS at hm
      cases h:mayS w e
      · rw [h] at hm; cases hm
      · rfl
    have e2:chkS w e=0:=by unfold chkS; rw [hm']; rfl
    have hmm:=of_decide_eq_true hm'
    rintro _ M3 ⟨K3,A3,c3,rfl,R3⟩
    have T3:=T2.trans K3
    have hBy:Byt (sqb w e):=fun x hx=>by
      unfold sqb at hx
      rw [if_pos hm'] at hx
      have hq:seqN w e<65536:=by unfold seqN; omega
      rcases List.mem_cons.1 hx with h | h
      · omega
      · rw [List.mem_singleton.1 h]; omega
    have lq:(sqb w e).length≤2:=by unfold sqb; split <;> simp
    refine ty rfl (ty rfl (ty rfl (Cn.mono (c12 (fb hf T3) R3 rfl hBy (by omega)) ?_)))
    rw [rdS_sqb hm',e2]
    rintro _ M4 ⟨rfl,K4⟩
    have T4:=T3.trans K4
    have a4:=at_keep (at_keep a2 K3) K4
    have ew:((w.toNat:Nat):Int)=w:=by omega
    have ee:((e.toNat:Nat):Int)=e:=by omega
    refine ty rfl (ty rfl (ty rfl (ty rfl (ty rfl (stN (cs:=#[.int .i64 (w.toNat:Nat),.int .i64 (e.toNat:Nat)]) (fb hf T4) rfl rfl rfl fun M5 K5 z5 b5=>cF rfl (cF rfl ?_))))))
    have T5:=T4.trans K5
    have a5:=at_keep a4 K5
    rw [ew,ee] at b5
    refine on (int_of (i:=0) b5 rfl) (on (int_of (i:=0+1) b5 rfl) (on (int_of (i:=0) a5 rfl) (on (int_of (i:=0+1) a5 rfl) (pu (neq23 w e) (ty rfl (w6_1 (cF rfl (Cn.mono c19 ?_))))))))
    rintro _ M6 ⟨rfl,K6,z6,W6⟩
    have T6:=T5.trans K6
    have f6:=fb hf T6
    have lM:=lt_of_at a5
    have z5':=T5.size
    have W:Ws (fun _=>False) M6 M5.nb.size (([]:List (Hd × List Sg)).flatMap hB):=⟨W6.shrink (fun i _ h=>h.elim) fun hu=>hu.elim id fun q=>by omega,fun i hi=>hi.elim False.elim fun q=>by rw [T6.floor]; omega,f6,fun i hi=>hi.elim⟩
    refine ty rfl (e6_2k (M0:=M) (Ks:=[]) (U:=fun _=>False) (V:=fun _=>False) (lo:=M.nb.size) hm' hH hO z5' hb Hs.length 0 (by omega) (by simp) (by omega) W (by simp) (.inl ⟨rfl,rfl,by decide⟩) (fun i hi=>hi.elim) (fun i hi=>hi.elim id id |>.elim) (by omega) (at_keep a5 K6) ⟨id,by omega,id⟩ (hR.keep T6) (fun x hx=>((hH x hx).2.2.2.2.1).keep T6) (fun x hx=>by cases hx) fun x hx=>by cases hx)
end
end Go.Zt
