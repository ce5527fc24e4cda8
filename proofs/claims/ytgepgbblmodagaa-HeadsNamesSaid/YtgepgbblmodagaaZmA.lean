/- Layer 20: the document's Write. -/
import Derived.Test.YtgepgbblmodagaaZlW
import Derived.Test.YtgepgbblmodagaaProg
import Derived.Test.YtgepgbblmodagaaZkA
import Derived.Test.YtgepgbblmodagaaZqT
import Derived.Test.YtgepgbblmodagaaZlP
set_option linter.unusedSimpArgs false
set_option linter.unusedVariables false
set_option maxRecDepth 100000
namespace Go.Zt
open Go Go.Sim Go.Proofs Go.RowKit
section
variable {U U0:Nat→Prop} {M N M0:Mem} {jd jh k:Nat} {l:List Nat} {h:Hd} {X:List Sg} {w e:Int}
theorem pK {Q:Mem→Prop} (E:Ext (· = jd) U0 M0 U M) (W:Wt U M jd l) (hl:l.length+40*(k+1)≤80000000000) {v z:Int} (n:Nat) (hz:z=(n:Int)) (hn:n≤32) (h0:0≤v) (h1:v<((2 ^ n:Nat):Int))
    (K:∀ U' N,Ext (· = jd) U0 M0 U' N→Wt U' N jd (l ++ bI v n)→(l ++ bI v n).length+40*k≤80000000000→Q N):Cn Try.prog 51 #[PtrB jd,.int .i64 v,.int .i64 z] M fun _ N=>Q N:=by
  subst hz
  have hp:2 ^ n≤4294967296:=pow32 hn
  have ev:IntKind.u32.wrap v=((v.toNat:Nat):Int):=by rw [u32w (by omega)]; omega
  have e3:wFixed l v.toNat n=(0,l ++ bI v n):=by unfold wFixed; rw [if_neg (by rw [Int.toNat_natCast]; omega)]; rfl
  refine w51_0 (Cn.mono (c23 W.flw W.dev ev (by omega) n (by omega)) ?_)
  rw [e3]
  rintro _ N ⟨rfl,C,W'⟩
  obtain ⟨U',E',W''⟩:=W.of C W'
  exact ty rfl (K U' N (E.trans E') W'' (by simp [bI,bitsN_len]; omega))
theorem yK {Q:Mem→Prop} (E:Ext (· = jd) U0 M0 U M) (W:Wt U M jd l) (hl:l.length+40*(k+1)≤80000000000) {b:Bool}
    (K:∀ U' N,Ext (· = jd) U0 M0 U' N→Wt U' N jd (l ++ [yes b])→(l ++ [yes b]).length+40*k≤80000000000→Q N):
    Cn Try.prog 52 #[.bool b] M fun v N7=>tyS (asI .i64 v) fun x=>Cn Try.prog 51 #[PtrB jd,.int .i64 x,.int .i64 1] N7 fun _ N=>Q N:=by
  refine w52_0 (cn (fun hb=>ty rfl ?_) fun hb=>ty rfl ?_)
  · subst hb; exact pK E W hl (v:=1) 1 rfl (by decide) (by decide) (by decide) K
  · subst hb; exact pK E W hl (v:=0) 1 rfl (by decide) (by decide) (by decide) K
theorem zK {Q:Mem→Prop} (E:Ext (· = jd) U0 M0 U M) (W:Wt U M jd l) (hl:l.length+40*(k+1)≤80000000000) {v:Int} (hv : -31≤v∧v≤31)
    (K:∀ U' N,Ext (· = jd) U0 M0 U' N→Wt U' N jd (l ++ yes (decide (v<0))::bitsN v.natAbs 5)→(l ++ yes (decide (v<0))::bitsN v.natAbs 5).length+40*k≤80000000000→Q N):
    Cn Try.prog 53 #[PtrB jd,.int .i32 (IntKind.i32.wrap v),.int .i64 5] M fun v N=>tyS (asI .i64 v) fun _=>Q N:=by
  rw [i32w (by omega)]
  have e2:wSigned l v 5=(0,l ++ yes (decide (v<0))::bitsN v.natAbs 5):=by
    unfold wSigned
    rw [if_neg (by rw [show (5:Int).toNat=5 from rfl]; omega)]
    by_cases hn:v<0 <;> simp [hn,yes]
  refine Cn.mono (c53 W.flw W.dev (v:=v) (by omega) 5 (by omega)) ?_
  rw [e2]
  rintro _ N ⟨rfl,C,W'⟩
  obtain ⟨U',E',W''⟩:=W.of C W'
  exact ty rfl (K U' N (E.trans E') W'' (by simp [bitsN_len]; omega))
def Wo (U0:Nat→Prop) (M0:Mem) (jd:Nat) (l:List Nat):Value→Mem→Prop:=fun u N=>u=.int .i64 0∧∃ U',Ext (· = jd) U0 M0 U' N∧Wt U' N jd l
section
variable (a:M0.nb[jh]?=some (.cells h.cs 41)) (nh:¬ U0 jh∧jh≠jd)
include a nh
theorem e25_6 (E:Ext (· = jd) U0 M0 U M) (W:Wt U M jd l) (hl:l.length+40*3≤80000000000):A25_6 (some ⟨2*jd,0,none⟩) (some ⟨2*jh,0,none⟩) 0 M (Wo U0 M0 jd (l ++ [yes h.x0] ++ [yes h.x1] ++ [yes h.x2])):=by
  refine w25_6 (cT (by decide) (ad rfl (ix (x:=⟨2*jh,27,none⟩) (by kernel_rfl) (on (bool_of (i:=27) (E.at a nh.1 nh.2).1 rfl) (yK (k:=2) E W hl fun U1 N1 E1 W1 l1=>?_)))))
  refine w25_6 (cT (by decide) (ad rfl (ix (x:=⟨2*jh,28,none⟩) (by kernel_rfl) (on (bool_of (i:=28) (E1.at a nh.1 nh.2).1 rfl) (yK (k:=1) E1 W1 l1 fun U2 N2 E2 W2 l2=>?_)))))
  refine w25_6 (cT (by decide) (ad rfl (ix (x:=⟨2*jh,29,none⟩) (by kernel_rfl) (on (bool_of (i:=29) (E2.at a nh.1 nh.2).1 rfl) (yK (k:=0) E2 W2 l2 fun U3 N3 E3 W3 l3=>?_)))))
  exact w25_6 (cF (by decide) ⟨rfl,U3,E3,W3⟩)
theorem e25_5 (hn:h.n=X.length) (hb:h.n≤8) (hR:Row M0 h.A (Sgs X)) (hF:FarW U0 jd M0 h.A) (hX:X.all Sg.may=true):∀ (q i:Nat) {U:Nat→Prop} {M:Mem} {l:List Nat},i+q=h.n→Ext (· = jd) U0 M0 U M→Wt U M jd l→l.length+40*(4*q+3)≤80000000000→
    A25_5 (some ⟨2*jd,0,none⟩) (some ⟨2*jh,0,none⟩) (i:Int) M (Wo U0 M0 jd (l ++ (X.drop i).flatMap sBits ++ [yes h.x0] ++ [yes h.x1] ++ [yes h.x2]))
  | 0,i,U,M,l,hi,E,W,hl=>by
    have:=e25_6 a nh E W hl
    rw [List.drop_of_length_le (by omega)]
    simp only [List.flatMap_nil,List.append_nil]
    exact w25_5 (ad rfl (on (sl_of (E.at a nh.1 nh.2).1 rfl) (cF (decide_eq_false (by show ¬ (i:Int)<(h.n:Int); omega)) this)))
  | q+1,i,U,M,l,hi,E,W,hl=>by
    have hlt:i<X.length:=by omega
    obtain ⟨p,g0,_⟩:=Sgs.elt hR (n:=h.n) (i:=i) (z:=(i:Int)) rfl (by omega) hlt
    have cells:∀ {U1:Nat→Prop} {M1:Mem},Ext (· = jd) U0 M0 U1 M1→M1.intAt .i64 p.block p.off=some X[i].a∧M1.intAt .i64 p.block (p.off+1)=some X[i].b∧M1.intAt .i64 p.block (p.off+2)=some X[i].c∧M1.intAt .i64 p.block (p.off+3)=some X[i].d:=by
      intro U1 M1 E
      obtain ⟨p',g0',g⟩:=Sgs.elt (hF.row hR E) (n:=h.n) (i:=i) (z:=(i:Int)) rfl (by omega) hlt
      rw [g0] at g0'
      obtain rfl:=Option.some.inj g0'
      exact g
    have hm:=of_decide_eq_true (List.all_eq_true.1 hX X[i] (List.getElem_mem hlt))
    rw [List.drop_eq_getElem_cons hlt]
    refine w25_5 (ad rfl (on (sl_of (E.at a nh.1 nh.2).1 rfl) (cT (decide_eq_true (by show (i:Int)<(h.n:Int); omega)) (ad rfl (on (sl_of (E.at a nh.1 nh.2).1 rfl) (ix g0 (on (cells E).1 (pK (k:=4*q+6) E W (by omega) 4 rfl (by decide) (by omega) (by show X[i].a<16; omega) fun U1 N1 E1 W1 l1=>?_))))))))
    refine ad rfl (on (sl_of (E1.at a nh.1 nh.2).1 rfl) (ix g0 (on (cells E1).2.1 (pK (k:=4*q+5) E1 W1 l1 2 rfl (by decide) (by omega) (by show X[i].b<4; omega) fun U2 N2 E2 W2 l2=>?_))))
    refine ad rfl (on (sl_of (E2.at a nh.1 nh.2).1 rfl) (ix g0 (on (cells E2).2.2.1 (pK (k:=4*q+4) E2 W2 l2 4 rfl (by decide) (by omega) (by show X[i].c<16; omega) fun U3 N3 E3 W3 l3=>?_))))
    refine ad rfl (on (sl_of (E3.at a nh.1 nh.2).1 rfl) (ix g0 (on (cells E3).2.2.2 (pK (k:=4*q+3) E3 W3 l3 2 rfl (by decide) (by omega) (by show X[i].d<4; omega) fun U4 N4 E4 W4 l4=>?_))))
    rw [i64w (by omega)]
    have:=e25_5 hn hb hR hF hX q (i+1) (by omega) E4 W4 l4
    simp only [List.flatMap_cons,sBits,List.append_assoc] at this ⊢
    exact this
theorem e25_4 (hn:h.n=X.length) (hR:Row M0 h.A (Sgs X)) (hF:FarW U0 jd M0 h.A) (hm:h.mayF X=true) (hless:h.less=false) (hb:h.n≤8) (E:Ext (· = jd) U0 M0 U M) (W:Wt U M jd l) (hl:l.length+40*50≤80000000000):
    A25_4 (some ⟨2*jd,0,none⟩) (some ⟨2*jh,0,none⟩) 0 M (Wo U0 M0 jd (l ++ fBits h X)):=by
  unfold Hd.mayF at hm
  rw [hless] at hm
  simp only [Bool.false_eq_true,if_false,Bool.and_eq_true,decide_eq_true_eq] at hm
  obtain ⟨⟨ms,mc,m0,m1,m2,m3⟩,mX⟩:=hm
  refine w25_4 (cT (by decide) (ad rfl (ix (x:=⟨2*jh,18,none⟩) (by kernel_rfl) (on (int_of (i:=18) (E.at a nh.1 nh.2).1 rfl) (pK (k:=49) E W (by omega) 6 rfl (by decide) m0.1 (by show h.l0<64; omega) fun U1 N1 E1 W1 l1=>?_)))))
  refine w25_4 (cT (by decide) (ad rfl (ix (x:=⟨2*jh,19,none⟩) (by kernel_rfl) (on (int_of (i:=19) (E1.at a nh.1 nh.2).1 rfl) (pK (k:=48) E1 W1 l1 6 rfl (by decide) m1.1 (by show h.l1<64; omega) fun U2 N2 E2 W2 l2=>?_)))))
  refine w25_4 (cT (by decide) (ad rfl (ix (x:=⟨2*jh,20,none⟩) (by kernel_rfl) (on (int_of (i:=20) (E2.at a nh.1 nh.2).1 rfl) (pK (k:=47) E2 W2 l2 6 rfl (by decide) m2.1 (by show h.l2<64; omega) fun U3 N3 E3 W3 l3=>?_)))))
  refine w25_4 (cT (by decide) (ad rfl (ix (x:=⟨2*jh,21,none⟩) (by kernel_rfl) (on (int_of (i:=21) (E3.at a nh.1 nh.2).1 rfl) (pK (k:=46) E3 W3 l3 6 rfl (by decide) m3.1 (by show h.l3<64; omega) fun U4 N4 E4 W4 l4=>?_)))))
  refine w25_4 (cF (by decide) (ad rfl (on (int_of (E4.at a nh.1 nh.2).1 rfl) (pK (k:=45) E4 W4 l4 3 rfl (by decide) ms.1 (by show h.sp<8; omega) fun U5 N5 E5 W5 l5=>ad rfl (on (bool_of (E5.at a nh.1 nh.2).1 rfl) (yK (k:=44) E5 W5 l5 fun U6 N6 E6 W6 l6=>ad rfl (on (bool_of (E6.at a nh.1 nh.2).1 rfl) (cn (fun hc=>?_) fun hc=>?_))))))))
  · rw [if_pos hc] at mc
    refine ad rfl (on (int_of (E6.at a nh.1 nh.2).1 rfl) ?_)
    rw [i64w (x:=h.da - 3) (by omega)]
    refine pK (k:=43) E6 W6 l6 2 rfl (by decide) (by omega) (by show h.da - 3<4; omega) fun U7 N7 E7 W7 l7=>ad rfl (on (int_of (E7.at a nh.1 nh.2).1 rfl) (pK (k:=42) E7 W7 l7 2 rfl (by decide) mc.2.1.1 (by show h.cb<4; omega) fun U8 N8 E8 W8 l8=>?_))
    have:=e25_5 a nh hn hb hR hF mX h.n 0 (by omega) E8 W8 (by omega)
    unfold fBits
    simp only [hc,if_true,List.drop_zero,List.append_assoc] at this ⊢
    exact this
  · have:=e25_6 a nh E6 W6 (by omega)
    unfold fBits
    simp only [hc,Bool.false_eq_true,if_false,List.append_nil,List.append_assoc] at this ⊢
    exact this
theorem s25_2 {Q:Value→Mem→Prop} (E:Ext (· = jd) U0 M0 U M) (W:Wt U M jd l) (hl:l.length+40*(k+2)≤80000000000) {i v:Int} {o:Nat} (hi:i<5) (hix:idxA (some ⟨2*jh,0+10,none⟩) 5 1 i=some ⟨2*jh,o,none⟩) (ho:h.cs[o]?=some (.int .i64 v)) (hv : -31≤v∧v≤31)
    (K:∀ U' N,Ext (· = jd) U0 M0 U' N→Wt U' N jd (l ++ dBits v)→(l ++ dBits v).length+40*k≤80000000000→A25_2 (some ⟨2*jd,0,none⟩) (some ⟨2*jh,0,none⟩) (IntKind.i64.wrap (i+1)) N Q):
    A25_2 (some ⟨2*jd,0,none⟩) (some ⟨2*jh,0,none⟩) i M Q:=by
  refine w25_2 (cT (decide_eq_true hi) (ad rfl (ix hix (on (int_of (E.at a nh.1 nh.2).1 ho) (yK (k:=k+1) E W hl fun U1 N1 E1 W1 l1=>ad rfl (ix hix (on (int_of (E1.at a nh.1 nh.2).1 ho) (cn (fun h0=>ad rfl (ix hix (on (int_of (E1.at a nh.1 nh.2).1 ho) (zK (k:=k) E1 W1 l1 hv fun U2 N2 E2 W2 l2=>w25_3 ?_)))) fun h0=>w25_3 ?_))))))))
  · have e1:l ++ dBits v=l ++ [yes (v != 0)] ++ yes (decide (v<0))::bitsN v.natAbs 5:=by unfold dBits; rw [h0]; simp
    exact K U2 N2 E2 (by rw [e1]; exact W2) (by rw [e1]; exact l2)
  · have e1:l ++ dBits v=l ++ [yes (v != 0)]:=by unfold dBits; rw [h0]; simp
    exact K U1 N1 E1 (by rw [e1]; exact W1) (by rw [e1]; omega)
theorem e25_2 (hn:h.n=X.length) (hR:Row M0 h.A (Sgs X)) (hF:FarW U0 jd M0 h.A) (hb:h.n≤8) (hm:h.mayF X=true) (hco:logM h.co w=true) (hro:logM h.ro e=true) (md:(-31≤h.d0∧h.d0≤31)∧(-31≤h.d1∧h.d1≤31)∧(-31≤h.d2∧h.d2≤31)∧(-31≤h.d3∧h.d3≤31)∧(-31≤h.d4∧h.d4≤31))
    (E:Ext (· = jd) U0 M0 U M) (W:Wt U M jd l) (hl:l.length+40*70≤80000000000):A25_2 (some ⟨2*jd,0,none⟩) (some ⟨2*jh,0,none⟩) 0 M (Wo U0 M0 jd (l ++ tBits h X)):=by
  have c2:=of_decide_eq_true hco
  have r2:=of_decide_eq_true hro
  refine s25_2 a nh (k:=68) E W hl (by decide) (o:=10) (by kernel_rfl) rfl md.1 fun U1 N1 E1 W1 l1=>?_
  refine s25_2 a nh (k:=66) E1 W1 l1 (by decide) (o:=11) (by kernel_rfl) rfl md.2.1 fun U2 N2 E2 W2 l2=>?_
  refine s25_2 a nh (k:=64) E2 W2 l2 (by decide) (o:=12) (by kernel_rfl) rfl md.2.2.1 fun U3 N3 E3 W3 l3=>?_
  refine s25_2 a nh (k:=62) E3 W3 l3 (by decide) (o:=13) (by kernel_rfl) rfl md.2.2.2.1 fun U4 N4 E4 W4 l4=>?_
  refine s25_2 a nh (k:=60) E4 W4 l4 (by decide) (o:=14) (by kernel_rfl) rfl md.2.2.2.2 fun U5 N5 E5 W5 l5=>?_
  refine w25_2 (cF (by decide) (ad rfl (on (int_of (E5.at a nh.1 nh.2).1 rfl) (pK (k:=59) E5 W5 l5 2 rfl (by decide) c2.1 (by show h.co<4; omega) fun U6 N6 E6 W6 l6=>ad rfl (on (int_of (E6.at a nh.1 nh.2).1 rfl) (pK (k:=58) E6 W6 l6 2 rfl (by decide) r2.1 (by show h.ro<4; omega) fun U7 N7 E7 W7 l7=>ad rfl (on (bool_of (E7.at a nh.1 nh.2).1 rfl) (yK (k:=57) E7 W7 l7 fun U8 N8 E8 W8 l8=>ad rfl (ldA (E8.at a nh.1 nh.2).1 rfl (Cn.mono c54 ?_)))))))))) 
  rintro _ N9 ⟨rfl,K9⟩
  have E9:Ext (· = jd) U0 M0 U8 N9:=E8.trans (Ext.of K9 fun i _ h=>h.elim)
  have W9:=W8.keep K9
  refine ty rfl (cn (fun hless=>⟨rfl,U8,E9,?_⟩) fun hless=>?_)
  · unfold tBits
    simp only [hless,if_true,List.append_nil,List.append_assoc] at W9 ⊢
    exact W9
  · have:=e25_4 a nh hn hR hF hm hless hb E9 W9 (by omega)
    unfold tBits
    simp only [hless,Bool.false_eq_true,if_false,List.append_assoc] at this ⊢
    exact this
end
set_option maxHeartbeats 1000000 in
theorem c25 (hW:Wt U M jd l) (hl:l.length≤70000000000) (hn:h.n=X.length) (hb:h.n≤1048576) (hR:Row M h.A (Sgs X)) (hF:FarW U jd M h.A):
    Cn Try.prog 25 #[PtrB jd,.agg h.cs,.agg #[.int .i64 w,.int .i64 e]] M fun u N=>u=.int .i64 (er (h.may X w e):Nat)∧∃ U',Ext (· = jd) U M U' N∧Wt U' N jd (l ++ wB h X w e):=by
  have ld:=hW.lt
  have a:=Mem.new_at M (.cells h.cs 41)
  have K1:Keep M (M.new (.cells h.cs 41)):=.new _ _
  refine w25_0 ?_
  generalize M.new (.cells h.cs 41)=M1 at a K1 ⊢
  have s:=Mem.new_at M1 (.cells #[.int .i64 w,.int .i64 e] 23)
  have K2:Keep M1 (M1.new (.cells #[.int .i64 w,.int .i64 e] 23)):=.new _ _
  have a2:=at_keep a K2
  generalize M1.new (.cells #[.int .i64 w,.int .i64 e] 23)=M2 at s K2 a2 ⊢
  have KK:=K1.trans K2
  refine ldA a2 rfl (on (int_of s rfl) (on (int_of s rfl) (Cn.mono (c27 (hW.keep KK).fs hn hb (hR.keep KK)) ?_)))
  rintro _ Nz ⟨rfl,K4⟩
  have K04:=KK.trans K4
  have W4:=hW.keep K04
  have E0:Ext (· = jd) U M U Nz:=Ext.of K04 fun i _ h=>h.elim
  have a4:=at_keep a2 K4
  have nh:¬ U M.nb.size∧M.nb.size≠jd:=⟨fun hu=>by have:=hW.ub _ hu; omega,by omega⟩
  refine ty rfl (cne (fun hm=>⟨rfl,U,E0,?_⟩) fun hm=>?_)
  · have:wB h X w e=[]:=by
      unfold wB
      cases hmm:h.may X w e
      · rfl
      · rw [hmm] at hm; exact absurd rfl hm
    rw [this,List.append_nil]; exact W4
  have hm:h.may X w e=true:=by
    cases hmm:h.may X w e
    · rw [hmm] at hm; cases hm
    · rfl
  have mS:mayS w e=true:=by unfold Hd.may at hm; simp only [Bool.and_eq_true] at hm; exact hm.1.1.1
  have h8:h.n≤8:=by rw [hn]; exact may_len hm
  have er0:(er (h.may X w e):Nat)=0:=by rw [hm]; rfl
  have hw:wB h X w e=hBits h X:=by unfold wB; rw [hm]; rfl
  rw [er0,hw]
  have hR4:=hR.keep K04
  have hF4:=hF.keep K04
  have back:∀ {u:Value} {N:Mem},Wo U Nz jd (l ++ hBits h X) u N→u=.int .i64 ((0:Nat):Int)∧∃ U',Ext (· = jd) U M U' N∧Wt U' N jd (l ++ hBits h X):=fun ⟨hu,U',E,W⟩=>⟨hu,U',E0.trans E,W⟩
  generalize hjh:M.nb.size=jh at a4 nh
  refine on (bool_of a4 rfl) (yK (k:=90) .refl W4 (by omega) fun U1 N1 E1 W1 l1=>on (bool_of (E1.at a4 nh.1 nh.2).1 rfl) (cn (fun hx=>?_) fun hx=>?_))
  · unfold Hd.may at hm
    simp only [hx,if_true,Bool.and_eq_true,decide_eq_true_eq] at hm
    have sl:=hm.1.1.2.1
    refine on (int_of (E1.at a4 nh.1 nh.2).1 rfl) (pK (k:=89) E1 W1 l1 3 rfl (by decide) sl.1 (by show h.sl<8; omega) fun U2 N2 E2 W2 l2=>back ⟨rfl,U2,E2,?_⟩)
    unfold hBits
    simp only [hx,if_true,List.append_assoc] at W2 ⊢
    exact W2
  · obtain ⟨⟨sl,rf,pr,ba⟩,mk,mr,md,mco,mro,mf⟩:=(may_iff hx mS).1 hm
    refine on (bool_of (E1.at a4 nh.1 nh.2).1 rfl) (yK (k:=89) E1 W1 l1 fun U2 N2 E2 W2 l2=>on (bool_of (E2.at a4 nh.1 nh.2).1 rfl) (yK (k:=88) E2 W2 l2 fun U3 N3 E3 W3 l3=>on (int_of (E3.at a4 nh.1 nh.2).1 rfl) (pK (k:=87) E3 W3 l3 8 rfl (by decide) rf.1 (by show h.rf<256; omega) fun U4 N4 E4 W4 l4=>on (bool_of (E4.at a4 nh.1 nh.2).1 rfl) ?_)))
    have rest:∀ {U5:Nat→Prop} {N5:Mem} {l5:List Nat},Ext (· = jd) U Nz U5 N5→Wt U5 N5 jd l5→l5.length+40*75≤80000000000→l5 ++ bI h.ba 8 ++ tBits h X=l ++ hBits h X→
        Cn Try.prog 51 #[PtrB jd,.int .i64 h.ba,.int .i64 8] N5 fun _ N=>A25_2 (some ⟨2*jd,0,none⟩) (some ⟨2*jh,0,none⟩) 0 N fun u N=>u=.int .i64 ((0:Nat):Int)∧∃ U',Ext (· = jd) U M U' N∧Wt U' N jd (l ++ hBits h X):=by
      intro U5 N5 l5 E5 W5 q5 hl5
      refine pK (k:=74) E5 W5 q5 8 rfl (by decide) ba.1 (by show h.ba<256; omega) fun U6 N6 E6 W6 l6=>?_
      have:=e25_2 a4 nh hn hR4 hF4 h8 mf mco mro md E6 W6 (by omega)
      rw [hl5] at this
      exact LvP.mono this fun u N g=>back g
    refine cnn (fun hk=>?_) fun hk=>?_
    · refine w25_1 (cT (by decide) (ad rfl (ix (x:=⟨2*jh,5,none⟩) (by kernel_rfl) (on (int_of (i:=5) (E4.at a4 nh.1 nh.2).1 rfl) (pK (k:=86) E4 W4 l4 3 rfl (by decide) mr.1.1 (by show h.r0<8; omega) fun Ua Na Ea Wa la=>?_)))))
      refine w25_1 (cT (by decide) (ad rfl (ix (x:=⟨2*jh,6,none⟩) (by kernel_rfl) (on (int_of (i:=6) (Ea.at a4 nh.1 nh.2).1 rfl) (pK (k:=85) Ea Wa la 3 rfl (by decide) mr.2.1.1 (by show h.r1<8; omega) fun Ub Nb Eb Wb lb=>?_)))))
      refine w25_1 (cT (by decide) (ad rfl (ix (x:=⟨2*jh,7,none⟩) (by kernel_rfl) (on (int_of (i:=7) (Eb.at a4 nh.1 nh.2).1 rfl) (pK (k:=84) Eb Wb lb 3 rfl (by decide) mr.2.2.1 (by show h.r2<8; omega) fun Uc Nc Ec Wc lc=>?_)))))
      refine w25_1 (cF (by decide) (ad rfl (on (int_of (Ec.at a4 nh.1 nh.2).1 rfl) (yK (k:=83) Ec Wc lc fun Ud Nd Ed Wd ld=>ad rfl (on (int_of (Ed.at a4 nh.1 nh.2).1 rfl) (cd (fun hp=>ad rfl (on (int_of (Ed.at a4 nh.1 nh.2).1 rfl) (pK (k:=82) Ed Wd ld 3 rfl (by decide) hp (by show h.pr<8; omega) fun Ue Ne Ee We le=>ad rfl (on (int_of (Ee.at a4 nh.1 nh.2).1 rfl) (rest Ee We (by omega) ?_))))) fun hp=>ad rfl (on (int_of (Ed.at a4 nh.1 nh.2).1 rfl) (rest Ed Wd (by omega) ?_))))))))
      · unfold hBits rBits; simp [hx,hk,hp,List.append_assoc]
      · unfold hBits rBits; simp [hx,hk,hp,List.append_assoc]
    · refine on (int_of (E4.at a4 nh.1 nh.2).1 rfl) (rest E4 W4 (by omega) ?_)
      unfold hBits rBits; simp [hx,hk,List.append_assoc]
end
end Go.Zt

/- The functions' walks: for each function and each loop a rule of what it comes to. Printed by zw2.py. -/
set_option linter.unusedVariables false
set_option maxRecDepth 100000
namespace Go.Zt
open Go Go.Sim Go.Proofs
def tyZlG0:List Sc:=[.bool,.int .i64,.bool,.bool,.int .i64,.int .i64,.int .i64,.int .i64,.int .i64,.int .i64,.int .i64,.int .i64,.int .i64,.int .i64,.int .i64,.int .i64,.int .i64,.bool,.int .i64,.int .i64,.int .i64,.int .i64,.int .i64,.bool,.int .i64,.int .i64,.sl,.bool,.bool,.bool]
def K4:List (List It × List Nat):=[([.rg [1,1,1,1,1,1,1,1,1,1,0] 13,.code [1,1,1,1,1,1,1,1,1,1,1]],[3,7,8,9,47]),([.rg [1,1,1,1,1,1,1,1,1,1,0] 20,.code [1,1,1,1,1,1,1,1,1,1,1]],[3,7,54]),([.rg [1,1,1,1,1,1,1,1,1,1,0] 25,.code [1,1,1,1,1,1,1,1,1,1,1]],[59])]
def Z4:List (List Nat × List Nat):=[([1,1,1,1,1,1,1,1,1,1,0],[13,20,25,28])]
theorem b4:Try.prog.funcs[4]?=some Try.f4∧(Orc.tab Try.prog).lookup 4=none∧Try.f4.body=some (codeOf Try.f4):=⟨by kernel_rfl,by kernel_rfl,by kernel_rfl⟩
def A4_1 (x3 x7 x8 x9:Option Addr) (x47:Bool) (M:Mem) (Q:Value→Mem→Prop):Prop:=LvP Try.prog Try.f4 [(3,.pointer x3),(7,.pointer x7),(8,.pointer x8),(9,.pointer x9),(47,.bool x47)] [.rg [1,1,1,1,1,1,1,1,1,1,0] 13,.code [1,1,1,1,1,1,1,1,1,1,1]] M Q
def A4_2 (x3 x7:Option Addr) (x54:Bool) (M:Mem) (Q:Value→Mem→Prop):Prop:=LvP Try.prog Try.f4 [(3,.pointer x3),(7,.pointer x7),(54,.bool x54)] [.rg [1,1,1,1,1,1,1,1,1,1,0] 20,.code [1,1,1,1,1,1,1,1,1,1,1]] M Q
def A4_3 (x59:Bool) (M:Mem) (Q:Value→Mem→Prop):Prop:=LvP Try.prog Try.f4 [(59,.bool x59)] [.rg [1,1,1,1,1,1,1,1,1,1,0] 25,.code [1,1,1,1,1,1,1,1,1,1,1]] M Q
theorem w4_0 {x0:Array Value} {x1_0 x1_1 x2:Int} {M:Mem} {Q:Value→Mem→Prop} (H:
 ldP tyZlG0 ((M.new (.cells x0 41)).new (.cells #[.int .i64 x1_0,.int .i64 x1_1] 23)) (2*M.nb.size) 0 fun vs1'=>
 Cn Try.prog 18 #[.agg vs1'.toArray] ((M.new (.cells x0 41)).new (.cells #[.int .i64 x1_0,.int .i64 x1_1] 23)) fun v2' N2'=>
 tyS (asA 30 v2') fun cs3'=>
 asCellsP tyZlG0 0 cs3' fun vs4'=>
 stP (some 30) vs4'.toArray (N2'.new (.cells #[.bool false,.int .i64 0,.bool false,.bool false,.int .i64 0,.int .i64 0,.int .i64 0,.int .i64 0,.int .i64 0,.int .i64 0,.int .i64 0,.int .i64 0,.int .i64 0,.int .i64 0,.int .i64 0,.int .i64 0,.int .i64 0,.bool false,.int .i64 0,.int .i64 0,.int .i64 0,.int .i64 0,.int .i64 0,.bool false,.int .i64 0,.int .i64 0,.slice none 0 0,.bool false,.bool false,.bool false] 41)) (2*N2'.nb.size) 0 fun M5'=>
 Cn Try.prog 19 #[] M5' fun v6' N6'=>
 tyS (asP v6') fun p7'=>
 Cn Try.prog 20 #[] N6' fun v8' N8'=>
 tyS (asP v8') fun p9'=>
 cnd p7'.isNone (
 Q (.bool false) N8') (
 Cn Try.prog 21 #[.int .i64 x2,.int .i64 9] N8' fun v10' N10'=>
 tyS (asI .i64 v10') fun x11'=>
 Cn Try.prog 22 #[.pointer p7',.int .u32 0,.int .i64 x11'] N10' fun v12' N12'=>
 tyS (asI .i64 v12') fun x13'=>
 Cn Try.prog 23 #[.pointer p9',.int .u32 0,.int .i64 x11'] N12' fun v14' N14'=>
 tyS (asI .i64 v14') fun x15'=>
 ldP tyZlG0 N14' (2*N2'.nb.size) 0 fun vs16'=>
 onS (N14'.intAt .i64 (2*(M.new (.cells x0 41)).nb.size) 0) fun x17'=>
 onS (N14'.intAt .i64 (2*(M.new (.cells x0 41)).nb.size) (0+1)) fun x18'=>
 Cn Try.prog 24 #[.pointer p7',.agg vs16'.toArray,.agg #[.int .i64 x17',.int .i64 x18']] N14' fun v19' N19'=>
 tyS (asI .i64 v19') fun x20'=>
 ldP tyZlG0 N19' (2*M.nb.size) 0 fun vs21'=>
 onS (N19'.intAt .i64 (2*(M.new (.cells x0 41)).nb.size) 0) fun x22'=>
 onS (N19'.intAt .i64 (2*(M.new (.cells x0 41)).nb.size) (0+1)) fun x23'=>
 Cn Try.prog 25 #[.pointer p9',.agg vs21'.toArray,.agg #[.int .i64 x22',.int .i64 x23']] N19' fun v24' N24'=>
 tyS (asI .i64 v24') fun x25'=>
 ldP tyZlG0 N24' (2*N2'.nb.size) 0 fun vs26'=>
 onS (N24'.intAt .i64 (2*(M.new (.cells x0 41)).nb.size) 0) fun x27'=>
 onS (N24'.intAt .i64 (2*(M.new (.cells x0 41)).nb.size) (0+1)) fun x28'=>
 ldP tyZlG0 N24' (2*M.nb.size) 0 fun vs29'=>
 onS (N24'.intAt .i64 (2*(M.new (.cells x0 41)).nb.size) 0) fun x30'=>
 onS (N24'.intAt .i64 (2*(M.new (.cells x0 41)).nb.size) (0+1)) fun x31'=>
 Cn Try.prog 26 #[.agg vs26'.toArray,.agg #[.int .i64 x27',.int .i64 x28']] { N24' with floor:=N24'.nb.size } fun v32' N32'=>
 tyS (asI .i64 v32') fun x33'=>
 Cn Try.prog 27 #[.agg vs29'.toArray,.agg #[.int .i64 x30',.int .i64 x31']] { N32' with floor:=N24'.floor } fun v34' N34'=>
 tyS (asI .i64 v34') fun x35'=>
 cnd (x33' == x35') (
 A4_1 (some ⟨2*M.nb.size,0,none⟩) (some ⟨2*N2'.nb.size,0,none⟩) p7' p9' (x20' == x25') N34' Q) (
 A4_1 (some ⟨2*M.nb.size,0,none⟩) (some ⟨2*N2'.nb.size,0,none⟩) p7' p9' false N34' Q))):
 Cn Try.prog 4 #[.agg x0,.agg #[.int .i64 x1_0,.int .i64 x1_1],.int .i64 x2] M Q:=
 Cn.mk (cuts:=K4) (sp:=Z4) 900 b4 rfl rfl H fun G=>by kernel_rfl
theorem w4_1 {x3 x7 x8 x9:Option Addr} {x47:Bool} {M:Mem} {Q:Value→Mem→Prop} (H:
 cnd x47 (
 Cn Try.prog 28 #[.pointer x8] M fun v36' N36'=>
 tyS (asS v36') fun s37'=>
 Cn Try.prog 29 #[.pointer x9] N36' fun v38' N38'=>
 tyS (asS v38') fun s39'=>
 Cn Try.prog 16 #[.slice s37'.1 (s37'.2.1) (s37'.2.2),.slice s39'.1 (s39'.2.1) (s39'.2.2)] N38' fun v40' N40'=>
 tyS (asB v40') fun b41'=>
 A4_2 x3 x7 b41' N40' Q) (
 A4_2 x3 x7 false M Q)):
 A4_1 x3 x7 x8 x9 x47 M Q:=
 LvP.mk (cuts:=K4) (sp:=Z4) 900 H fun G=>by kernel_rfl
theorem w4_2 {x3 x7:Option Addr} {x54:Bool} {M:Mem} {Q:Value→Mem→Prop} (H:
 cnd x54 (
 adS x7 fun a42'=>
 ldP tyZlG0 M a42'.block a42'.off fun vs43'=>
 adS x3 fun a44'=>
 ldP tyZlG0 M a44'.block a44'.off fun vs45'=>
 Cn Try.prog 30 #[.agg vs43'.toArray,.agg vs45'.toArray] M fun v46' N46'=>
 tyS (asB v46') fun b47'=>
 A4_3 b47' N46' Q) (
 A4_3 false M Q)):
 A4_2 x3 x7 x54 M Q:=
 LvP.mk (cuts:=K4) (sp:=Z4) 900 H fun G=>by kernel_rfl
theorem w4_3 {x59:Bool} {M:Mem} {Q:Value→Mem→Prop} (H:
 cnd x59 (
 Cn Try.prog 17 #[] M fun v48' N48'=>
 tyS (asB v48') fun b49'=>
 Q (.bool b49') N48') (
 Q (.bool false) M)):
 A4_3 x59 M Q:=
 LvP.mk (cuts:=K4) (sp:=Z4) 900 H fun G=>by kernel_rfl
def K18:List (List It × List Nat):=[]
def Z18:List (List Nat × List Nat):=[]
theorem b18:Try.prog.funcs[18]?=some Try.f18∧(Orc.tab Try.prog).lookup 18=none∧Try.f18.body=some (codeOf Try.f18):=⟨by kernel_rfl,by kernel_rfl,by kernel_rfl⟩
theorem w18_0 {x0:Array Value} {M:Mem} {Q:Value→Mem→Prop} (H:
 ldP tyZlG0 ((M.new (.cells x0 41)).new (.cells #[.bool false,.int .i64 0,.bool false,.bool false,.int .i64 0,.int .i64 0,.int .i64 0,.int .i64 0,.int .i64 0,.int .i64 0,.int .i64 0,.int .i64 0,.int .i64 0,.int .i64 0,.int .i64 0,.int .i64 0,.int .i64 0,.bool false,.int .i64 0,.int .i64 0,.int .i64 0,.int .i64 0,.int .i64 0,.bool false,.int .i64 0,.int .i64 0,.slice none 0 0,.bool false,.bool false,.bool false] 41)) (2*M.nb.size) 0 fun vs1'=>
 stP (some 30) vs1'.toArray (((M.new (.cells x0 41)).new (.cells #[.bool false,.int .i64 0,.bool false,.bool false,.int .i64 0,.int .i64 0,.int .i64 0,.int .i64 0,.int .i64 0,.int .i64 0,.int .i64 0,.int .i64 0,.int .i64 0,.int .i64 0,.int .i64 0,.int .i64 0,.int .i64 0,.bool false,.int .i64 0,.int .i64 0,.int .i64 0,.int .i64 0,.int .i64 0,.bool false,.int .i64 0,.int .i64 0,.slice none 0 0,.bool false,.bool false,.bool false] 41)).new (.cells #[.bool false,.int .i64 0,.bool false,.bool false,.int .i64 0,.int .i64 0,.int .i64 0,.int .i64 0,.int .i64 0,.int .i64 0,.int .i64 0,.int .i64 0,.int .i64 0,.int .i64 0,.int .i64 0,.int .i64 0,.int .i64 0,.bool false,.int .i64 0,.int .i64 0,.int .i64 0,.int .i64 0,.int .i64 0,.bool false,.int .i64 0,.int .i64 0,.slice none 0 0,.bool false,.bool false,.bool false] 41)) (2*((M.new (.cells x0 41)).new (.cells #[.bool false,.int .i64 0,.bool false,.bool false,.int .i64 0,.int .i64 0,.int .i64 0,.int .i64 0,.int .i64 0,.int .i64 0,.int .i64 0,.int .i64 0,.int .i64 0,.int .i64 0,.int .i64 0,.int .i64 0,.int .i64 0,.bool false,.int .i64 0,.int .i64 0,.int .i64 0,.int .i64 0,.int .i64 0,.bool false,.int .i64 0,.int .i64 0,.slice none 0 0,.bool false,.bool false,.bool false] 41)).nb.size) 0 fun M2'=>
 ptS (M2'.put (2*((M.new (.cells x0 41)).new (.cells #[.bool false,.int .i64 0,.bool false,.bool false,.int .i64 0,.int .i64 0,.int .i64 0,.int .i64 0,.int .i64 0,.int .i64 0,.int .i64 0,.int .i64 0,.int .i64 0,.int .i64 0,.int .i64 0,.int .i64 0,.int .i64 0,.bool false,.int .i64 0,.int .i64 0,.int .i64 0,.int .i64 0,.int .i64 0,.bool false,.int .i64 0,.int .i64 0,.slice none 0 0,.bool false,.bool false,.bool false] 41)).nb.size) (0+26) (.slice none 0 0)) fun M3'=>
 onS (M3'.slAt (2*((M.new (.cells x0 41)).new (.cells #[.bool false,.int .i64 0,.bool false,.bool false,.int .i64 0,.int .i64 0,.int .i64 0,.int .i64 0,.int .i64 0,.int .i64 0,.int .i64 0,.int .i64 0,.int .i64 0,.int .i64 0,.int .i64 0,.int .i64 0,.int .i64 0,.bool false,.int .i64 0,.int .i64 0,.int .i64 0,.int .i64 0,.int .i64 0,.bool false,.int .i64 0,.int .i64 0,.slice none 0 0,.bool false,.bool false,.bool false] 41)).nb.size) (0+26)) fun s4'=>
 onS (M3'.slAt (2*M.nb.size) (0+26)) fun s5'=>
 meS (appendP Try.prog #[38,38] (.slice s4'.1 (s4'.2.1) (s4'.2.2)) (.slice s5'.1 (s5'.2.1) (s5'.2.2)) M3') fun r6'=>
 tyS (asS r6'.1) fun s7'=>
 ptS (r6'.2.put (2*((M.new (.cells x0 41)).new (.cells #[.bool false,.int .i64 0,.bool false,.bool false,.int .i64 0,.int .i64 0,.int .i64 0,.int .i64 0,.int .i64 0,.int .i64 0,.int .i64 0,.int .i64 0,.int .i64 0,.int .i64 0,.int .i64 0,.int .i64 0,.int .i64 0,.bool false,.int .i64 0,.int .i64 0,.int .i64 0,.int .i64 0,.int .i64 0,.bool false,.int .i64 0,.int .i64 0,.slice none 0 0,.bool false,.bool false,.bool false] 41)).nb.size) (0+26) (.slice s7'.1 (s7'.2.1) (s7'.2.2))) fun M8'=>
 ldP tyZlG0 M8' (2*((M.new (.cells x0 41)).new (.cells #[.bool false,.int .i64 0,.bool false,.bool false,.int .i64 0,.int .i64 0,.int .i64 0,.int .i64 0,.int .i64 0,.int .i64 0,.int .i64 0,.int .i64 0,.int .i64 0,.int .i64 0,.int .i64 0,.int .i64 0,.int .i64 0,.bool false,.int .i64 0,.int .i64 0,.int .i64 0,.int .i64 0,.int .i64 0,.bool false,.int .i64 0,.int .i64 0,.slice none 0 0,.bool false,.bool false,.bool false] 41)).nb.size) 0 fun vs9'=>
 stP (some 30) vs9'.toArray M8' (2*(M.new (.cells x0 41)).nb.size) 0 fun M10'=>
 ldP tyZlG0 M10' (2*(M.new (.cells x0 41)).nb.size) 0 fun vs11'=>
 Q (.agg vs11'.toArray) M10'):
 Cn Try.prog 18 #[.agg x0] M Q:=
 Cn.mk (cuts:=K18) (sp:=Z18) 900 b18 rfl rfl H fun G=>by kernel_rfl
end Go.Zt

/- Layer 20: HeadsWrites: what is seen of a head; Copy; the law. -/
set_option linter.unusedSimpArgs false
set_option linter.unusedVariables false
set_option maxRecDepth 100000
namespace Go.Zt
open Go Go.Sim Go.Proofs Go.RowKit
theorem elem38:ElemS Try.prog 38 96 4 32 (.agg #[.int .i64 0,.int .i64 0,.int .i64 0,.int .i64 0]):=⟨by kernel_rfl,by kernel_rfl,by kernel_rfl,by kernel_rfl,by decide⟩
theorem Sgs_one (X:List Sg):(Sgs X).all oneCell=true:=by
  induction X with
  | nil=>rfl
  | cons x X ih=>simp only [Sgs,List.flatMap_cons,List.all_append,Bool.and_eq_true] at ih ⊢; exact ⟨rfl,ih⟩
section
variable {U V:Nat→Prop} {M N M0:Mem} {jp jq:Nat} {l l':List Nat} {h:Hd} {X:List Sg} {w e:Int}
theorem c18 (hf:M.floor≤M.nb.size) (hn:h.n=X.length) (hb:h.n≤1048576) (hR:Row M h.A (Sgs X)):
    Cn Try.prog 18 #[.agg h.cs] M fun v N=>∃ A' c',v=.agg ({ h with A:=A',c:=c' }:Hd).cs∧Keep M N∧Row N A' (Sgs X)∧∀ a,A'=some a→a.block % 2=0∧M.nb.size≤a.block / 2∧a.block / 2<N.nb.size:=by
  have a:=Mem.new_at M (.cells h.cs 41)
  have K1:Keep M (M.new (.cells h.cs 41)):=.new _ _
  refine w18_0 ?_
  generalize M.new (.cells h.cs 41)=M1 at a K1 ⊢
  generalize hz:(#[.bool false,.int .i64 0,.bool false,.bool false,.int .i64 0,.int .i64 0,.int .i64 0,.int .i64 0,.int .i64 0,.int .i64 0,.int .i64 0,.int .i64 0,.int .i64 0,.int .i64 0,.int .i64 0,.int .i64 0,.int .i64 0,.bool false,.int .i64 0,.int .i64 0,.int .i64 0,.int .i64 0,.int .i64 0,.bool false,.int .i64 0,.int .i64 0,.slice none 0 0,.bool false,.bool false,.bool false]:Array Value)=zz
  have zs:zz.size=30:=by rw [← hz]; rfl
  have b:=Mem.new_at M1 (.cells zz 41)
  have K2:Keep M1 (M1.new (.cells zz 41)):=.new _ _
  have a2:=at_keep a K2
  have z1:=K1.size
  have s1:=Mem.new_size M1 (.cells zz 41)
  generalize M1.new (.cells zz 41)=M2 at b K2 a2 s1 ⊢
  have T2:=K1.trans K2
  have f2:M2.floor≤M2.nb.size:=fb hf T2
  refine ldA a2 rfl (stN (cs:=h.cs) f2 rfl (by rw [zs]; rfl) rfl fun M3 K3 n3 c3=>?_)
  have T3:=T2.trans K3
  have lt1:=lt_of_at a2
  have z2:=K2.size
  obtain ⟨M4,p4,C4,n4,c4⟩:=put1 26 (.slice none 0 0) c3 (by rw [T3.floor]; have:=T2.size; omega) (by show 26<30; decide) rfl
  refine pt p4 ?_
  have T2s:=T2.size
  have K4:Keep M M4:=Keep.step T3 C4 fun i hi=>by rw [hi]; exact T2s
  have b4:=at_chg (at_keep b K3) C4 (by omega)
  have a4:=at_chg (at_keep a2 K3) C4 (by omega)
  refine on (sl_of (A:=none) (l:=0) (c:=0) c4 rfl) (on (sl_of a4 rfl) ?_)
  have K4s:=K4.size
  obtain ⟨A',c',M5,p5,C5,O5,hc5⟩:=append_own elem38 (S:=fun j=>M4.nb.size≤j) (M:=M4) (A:=none) (c:=0) (n:=0) (L:=[]) (.inl ⟨rfl,rfl,by decide⟩) rfl (hR.keep K4) (k:=h.n) (cx:=h.c) (by rw [Sgs_len,hn]; omega) (Sgs_one X) (fun j hj=>by rw [K4.floor]; omega) (Nat.le_refl _) (by omega)
  rw [Nat.zero_add] at p5
  refine me p5 (ty rfl ?_)
  have K5:Keep M M5:=Keep.step K4 C5 fun i hi=>by omega
  have c5:=at_chg c4 C5 (by omega)
  have b5:=at_chg b4 C5 (by omega)
  obtain ⟨M6,p6,C6,n6,c6⟩:=put1 26 (.slice A' h.n c') c5 (by rw [K5.floor]; omega) (by show 26<30; decide) rfl
  refine pt p6 ?_
  have K6:Keep M M6:=Keep.step K5 C6 fun i hi=>by omega
  have b6:=at_chg b5 C6 (by omega)
  have e6:((h.cs.setIfInBounds 26 (.slice none 0 0)).setIfInBounds 26 (.slice A' h.n c'))=({ h with A:=A',c:=c' }:Hd).cs:=rfl
  rw [e6] at c6
  have O6:Own (fun j=>M4.nb.size≤j) M6 96 A' (c'*4) (Sgs X):=O5.chg C6 fun j hj hs=>by omega
  refine ldA c6 rfl (stA b6 (by rw [K6.floor]; omega) rfl (by rw [zs]; rfl) rfl fun M7 C7 n7 c7=>ldA c7 rfl ?_)
  have K7:Keep M M7:=Keep.step K6 C7 fun i hi=>by omega
  have z56:=C5.size
  have O7:Own (fun j=>M4.nb.size≤j) M7 96 A' (c'*4) (Sgs X):=O6.chg C7 fun j hj hs=>by omega
  refine ⟨A',c',rfl,K7,O7.row,fun x hx=>?_⟩
  rcases O7 with ⟨g1,_⟩ | ⟨j,cs,sp,g1,g2,g3,g4,_⟩
  · rw [g1] at hx; cases hx
  · rw [g1] at hx
    obtain rfl:=Option.some.inj hx
    have:=lt_of_at g4
    show 2*j % 2=0∧M.nb.size≤2*j / 2∧2*j / 2<M7.nb.size
    have:M4.nb.size≤j:=g3
    omega
end
end Go.Zt

/- Layer 20: HeadsWrites: the law. -/
set_option linter.unusedSimpArgs false
set_option linter.unusedVariables false
set_option maxRecDepth 100000
namespace Go.Zt
open Go Go.Sim Go.Proofs Go.RowKit
section
variable {U V U' V':Nat→Prop} {M N M0:Mem} {jp jq k:Nat} {l l' l2:List Nat} {h:Hd} {X:List Sg} {w e:Int}
structure Two (U V:Nat→Prop) (M:Mem) (jp jq:Nat) (l l':List Nat):Prop where
  p:Ws U M jp l
  q:Wt V M jq l'
  d1:∀ i,U i→¬ V i
  d2:¬ U jq
  d3:¬ V jp
  d4:jp≠jq
theorem Two.stepP (h:Two U V M jp jq l l') (E:Ext (· = jp) U M U' N) (W:Ws U' N jp l2):Two U' V N jp jq l2 l':=by
  have hq:=h.q.lt
  refine ⟨W,h.q.chg E.chg fun i hi hs ht=>?_,fun i hi hv=>?_,fun hu=>?_,h.d3,h.d4⟩
  · rcases hs with hs | hs <;> rcases ht with ht | ht
    · exact h.d1 i ht hs
    · exact h.d3 (ht ▸ hs)
    · exact h.d2 (hs ▸ ht)
    · exact h.d4 (ht.symm.trans hs)
  · rcases E.sub i hi with hu | hu
    · exact h.d1 i hu hv
    · have:=h.q.ub i hv; omega
  · rcases E.sub _ hu with hu | hu
    · exact h.d2 hu
    · omega
theorem Two.stepQ (h:Two U V M jp jq l l') (E:Ext (· = jq) V M V' N) (W:Wt V' N jq l2):Two U V' N jp jq l l2:=by
  have hp:=h.p.lt
  refine ⟨h.p.chg E.chg fun i hi hs ht=>?_,W,fun i hi hv=>?_,h.d2,fun hu=>?_,h.d4⟩
  · rcases hs with hs | hs <;> rcases ht with ht | ht
    · exact h.d1 i hs ht
    · exact h.d2 (ht ▸ hs)
    · exact h.d3 (hs ▸ ht)
    · exact h.d4 (hs.symm.trans ht)
  · rcases E.sub i hv with hu | hu
    · exact h.d1 i hi hu
    · have:=h.p.ub i hi; omega
  · rcases E.sub _ hu with hu | hu
    · exact h.d3 hu
    · omega
theorem Two.keep (h:Two U V M jp jq l l') (K:Keep M N):Two U V N jp jq l l':=⟨h.p.keep K,h.q.keep K,h.d1,h.d2,h.d3,h.d4⟩
theorem FarW.big {A:Option Addr} (h:FarW U jp M A) (hs:M.nb.size≤N.nb.size):FarW U jp N A:=fun a ha=>(h a ha).imp id fun ⟨q1,q2,q3⟩=>⟨Nat.lt_of_lt_of_le q1 hs,q2,q3⟩
theorem same_refl (h:Hd) (X:List Sg) (A:Option Addr) (c:Nat):({ h with A:=A,c:=c }:Hd).same X h X=true:=by
  simp [Hd.same,sm1,sm2,sm3,sm4,sm5,sm6,sm7,sm8,sm9,sm10,sm11,sm12,sm13,sm14,sm15,sm16,sm17]
theorem wF_len (v:Nat) (n:Int):(wFixed [] v n).2.length≤32:=by
  unfold wFixed
  split
  · simp
  · rename_i hh; simp [bitsN_len]; omega
end
end Go.Zt

/- Layer 20: HeadsReads: the program's Read. -/
set_option linter.unusedSimpArgs false
set_option linter.unusedVariables false
set_option maxRecDepth 100000
namespace Go.Zt
open Go Go.Sim Go.Proofs Go.RowKit
abbrev zP:Hd:=⟨false,0,false,false,0,0,0,0,0,0,0,0,0,0,0,0,0,false,0,0,0,0,0,false,0,0,none,0,0,false,false,false⟩
def TolP (U:Nat→Prop) (jq lo:Nat) (M0:Mem) (T:Cd→List Sg→Prop):Value→Mem→Prop:=fun v N=>
  ∃ U' c X,T c X∧(∀ i,U' i→U i∨lo≤i)∧Chg (fun i=>U i∨i=jq∨lo≤i) M0 N∧DvM U' N jq c.1∧(∀ i,U' i→i<N.nb.size)∧((c.2.1≠0∧v=.tuple #[.agg zP.cs,.int .i64 (c.2.1:Nat)])∨(c.2.1=0∧v=.tuple #[.agg c.2.2.cs,.int .i64 0]∧c.2.2.n=X.length∧Row N c.2.2.A (Sgs X)∧∀ a,c.2.2.A=some a→a.block % 2=1∨lo≤a.block / 2))
section
variable {U:Nat→Prop} {M N M0:Mem} {jq p:Nat} {b:List Nat} {w e:Int}
theorem DvM.chg1 {d:Dv} {j:Nat} {T:Nat→Prop} (h:DvM U M j d) (hr:∃ b p,d=.r b p) (k:Chg T M N) (hj:¬ T j) (hS:∀ i,U i→¬ T i):DvM U N j d:=by
  obtain ⟨b,p,rfl⟩:=hr
  exact Rdr.chg h k hj hS
theorem sg1_isW (d:Dv) (e:Nat) (x:Sg):(sg1 d e x).1.isW=d.isW:=by
  unfold sg1
  dsimp only
  rw [numD_isW,numD_isW,numD_isW,numD_isW]
theorem sgsD_isW:∀ (X:List Sg) (d:Dv) (e:Nat),(sgsD d e X).1.isW=d.isW
  | [],_,_=>rfl
  | x::X,d,e=>by simp only [sgsD]; rw [sgsD_isW X,sg1_isW]
theorem StrT_isW {c0 c:Cd} {X0 X:List Sg} (h:StrT c0 X0 c X):c.1.isW=c0.1.isW:=by
  obtain ⟨c1,h1,c2,h2,c3,X3,h3,h4,_⟩:=h
  have q1:c1.1.isW=c0.1.isW:=by rw [h1]; exact numD_isW ..
  have q2:c2.1.isW=c1.1.isW:=by rw [h2]; exact numD_isW ..
  have q3:c3.1.isW=c2.1.isW:=by
    split at h3
    · rw [h3.1]
    · split at h3
      · obtain ⟨⟨A,m,hc⟩,_⟩:=h3; rw [hc]
      · rw [h3.1]
  have q4:c.1.isW=c3.1.isW:=by rw [h4]; exact sgsD_isW ..
  rw [q4,q3,q2,q1]
theorem FiltT_isW {c0 c:Cd} {X0 X:List Sg} (h:FiltT c0 X0 c X):c.1.isW=c0.1.isW:=by
  obtain ⟨c1,h1,c2,h2,c3,h3,c4,h4,c5,h5,c6,h6,c7,h7,c8,h8,c9,h9,h10⟩:=h
  have q1:c1.1.isW=c0.1.isW:=by rw [h1]; exact numD_isW ..
  have q2:c2.1.isW=c1.1.isW:=by rw [h2]; exact numD_isW ..
  have q3:c3.1.isW=c2.1.isW:=by rw [h3]; exact numD_isW ..
  have q4:c4.1.isW=c3.1.isW:=by rw [h4]; exact numD_isW ..
  have q5:c5.1.isW=c4.1.isW:=by rw [h5]; exact numD_isW ..
  have q6:c6.1.isW=c5.1.isW:=by rw [h6]; exact flagD_isW ..
  have q7:c7.1.isW=c6.1.isW:=by
    split at h7
    · exact StrT_isW h7
    · rw [h7.1]
  have q8:c8.1.isW=c7.1.isW:=by rw [h8]; exact flagD_isW ..
  have q9:c9.1.isW=c8.1.isW:=by rw [h9]; exact flagD_isW ..
  have q10:c.1.isW=c9.1.isW:=by rw [h10]; exact flagD_isW ..
  rw [q10,q9,q8,q7,q6,q5,q4,q3,q2,q1]
theorem TailT_isW {c0 c:Cd} {X0 X:List Sg} (h:TailT w e c0 X0 c X):c.1.isW=c0.1.isW:=by
  obtain ⟨c1,h1,c2,h2,c3,h3,c4,h4,c5,h5,c6,h6,c7,h7,c8,h8,h9⟩:=h
  have q1:c1.1.isW=c0.1.isW:=by rw [h1]; exact deltaD_isW ..
  have q2:c2.1.isW=c1.1.isW:=by rw [h2]; exact deltaD_isW ..
  have q3:c3.1.isW=c2.1.isW:=by rw [h3]; exact deltaD_isW ..
  have q4:c4.1.isW=c3.1.isW:=by rw [h4]; exact deltaD_isW ..
  have q5:c5.1.isW=c4.1.isW:=by rw [h5]; exact deltaD_isW ..
  have q6:c6.1.isW=c5.1.isW:=by rw [h6]; exact logD_isW ..
  have q7:c7.1.isW=c6.1.isW:=by rw [h7]; exact logD_isW ..
  have q8:c8.1.isW=c7.1.isW:=by rw [h8]; exact flagD_isW ..
  have q9:c.1.isW=c8.1.isW:=by
    split at h9
    · rw [h9.1]
    · exact FiltT_isW h9
  rw [q9,q8,q7,q6,q5,q4,q3,q2,q1]
theorem HeadT_isW {c0 c:Cd} {X0 X:List Sg} (h:HeadT w e c0 X0 c X):c.1.isW=c0.1.isW:=by
  obtain ⟨c1,h1,h⟩:=h
  have q1:c1.1.isW=c0.1.isW:=by rw [h1]; exact flagD_isW ..
  split at h
  · rw [h.1,← q1]; exact numD_isW ..
  · obtain ⟨c2,h2,c3,h3,c4,h4,c5,h5,c6,h6,h7⟩:=h
    have q2:c2.1.isW=c1.1.isW:=by rw [h2]; exact flagD_isW ..
    have q3:c3.1.isW=c2.1.isW:=by rw [h3]; exact flagD_isW ..
    have q4:c4.1.isW=c3.1.isW:=by rw [h4]; exact numD_isW ..
    have q5:=h5.keepA.2.2
    have q6:c6.1.isW=c5.1.isW:=by rw [h6]; exact numD_isW ..
    rw [TailT_isW h7,q6,q5,q4,q3,q2,q1]
set_option maxHeartbeats 1000000 in
theorem c35 (D:Rdr U M jq b p) (fq:M.floor≤jq) (fs:M.floor≤M.nb.size) (fu:∀ i,U i→M.floor≤i) (ub:∀ i,U i→i<M.nb.size):
    Cn Try.prog 35 #[PtrB jq,.agg #[.int .i64 w,.int .i64 e]] M (if mayS w e=true then TolP U jq M.nb.size M (HeadT w e (.r b p,0,zP) []) else fun v N=>v=.tuple #[.agg zP.cs,.int .i64 2]∧Chg (fun i=>i=jq∨M.nb.size≤i) M N∧Rdr U N jq b p):=by
  have lq:jq<M.nb.size:=by obtain ⟨A,c,g,_⟩:=D.ex; exact lt_of_at g
  have a:=Mem.new_at M (.cells #[.int .i64 w,.int .i64 e] 23)
  have K1:Keep M (M.new (.cells #[.int .i64 w,.int .i64 e] 23)):=.new _ _
  have s1:=Mem.new_size M (.cells #[.int .i64 w,.int .i64 e] 23)
  refine w35_0 ?_
  generalize M.new (.cells #[.int .i64 w,.int .i64 e] 23)=M1 at a K1 s1 ⊢
  have bz:=Mem.new_at M1 (.cells zP.cs 41)
  have K2:Keep M1 (M1.new (.cells zP.cs 41)):=.new _ _
  have s2:=Mem.new_size M1 (.cells zP.cs 41)
  have a2:=at_keep a K2
  show Cn Try.prog 33 _ (M1.new (.cells zP.cs 41)) _
  generalize M1.new (.cells zP.cs 41)=M2 at bz K2 s2 a2 ⊢
  have T2:=K1.trans K2
  have e0:rFixed b p 0=(0,0,p):=by
    unfold rFixed
    have:=D.pos
    rw [if_neg (by decide),if_neg (by omega)]
    rfl
  refine Cn.mono (c33 (D.keep T2) (by rw [T2.floor]; exact fq) 0) ?_
  rw [e0]
  rintro _ M3 ⟨rfl,C3,z3,D3⟩
  have a3:=at_chg a2 C3 (by omega)
  have b3:=at_chg bz C3 (by omega)
  have T3:Chg (· = jq) M M3:=(T2.mono fun i _ h=>h.elim).trans C3
  refine ty rfl (ty rfl (ty rfl (cF rfl (on (int_of (i:=0) a3 rfl) (on (int_of (i:=0+1) a3 rfl) (Cn.mono c14 ?_))))))
  rintro _ M4 ⟨rfl,K4⟩
  have T4:Chg (· = jq) M M4:=T3.trans (K4.mono fun i _ h=>h.elim)
  have a4:=at_keep a3 K4
  have b4:=at_keep b3 K4
  have D4:=D3.keep K4
  have f4:M4.floor≤M.nb.size:=by rw [T4.floor]; exact fs
  have z4:=K4.size
  have nU:∀ i,M.nb.size≤i→¬ U i:=fun i hi h=>by have:=ub _ h; omega
  refine ty rfl (cne (fun hm=>?_) fun hm=>?_)
  · have hm':mayS w e=false:=by
      unfold chkS at hm
      cases h:mayS w e
      · rfl
      · rw [h] at hm; exact absurd rfl hm
    have e2:chkS w e=2:=by unfold chkS; rw [hm']; rfl
    rw [hm',e2]
    exact stA (cs:=zP.cs) b4 (by omega) rfl rfl rfl fun M5 C5 z5 u5=>ldA u5 rfl ⟨rfl,(T4.mono fun i _ h=>.inl h).trans (C5.mono fun i _ h=>by omega),D4.chg C5 (by omega) fun i hi h=>nU _ (by omega) hi⟩
  · have hm':mayS w e=true:=by
      unfold chkS at hm
      cases h:mayS w e
      · rw [h] at hm; cases hm
      · rfl
    rw [if_pos hm']
    have hmm:=of_decide_eq_true hm'
    have hw:16≤w∧w≤256:=⟨hmm.1,hmm.2.1⟩
    have he:16≤e∧e≤256:=⟨hmm.2.2.1,hmm.2.2.2.1⟩
    have hA:=Mem.new_at M4 (.cells zP.cs 41)
    have K5:Keep M4 (M4.new (.cells zP.cs 41)):=.new _ _
    have s5:=Mem.new_size M4 (.cells zP.cs 41)
    show onS (((M4.new (.cells zP.cs 41)).new (.cells #[.pointer none,PtrB jq,.int .i64 0] 89)).intAt .i64 (2*M.nb.size) 0) _
    generalize M4.new (.cells zP.cs 41)=M5 at hA K5 s5 ⊢
    have cA:=Mem.new_at M5 (.cells #[.pointer none,PtrB jq,.int .i64 0] 89)
    have K6:Keep M5 (M5.new (.cells #[.pointer none,PtrB jq,.int .i64 0] 89)):=.new _ _
    have s6:=Mem.new_size M5 (.cells #[.pointer none,PtrB jq,.int .i64 0] 89)
    generalize M5.new (.cells #[.pointer none,PtrB jq,.int .i64 0] 89)=M6 at cA K6 s6 ⊢
    have K46:=K5.trans K6
    have T6:Chg (· = jq) M M6:=T4.trans (K46.mono fun i _ h=>h.elim)
    have a6:=at_keep a4 K46
    have b6:=at_keep b4 K46
    have h6:=at_keep hA K6
    have f6:M6.floor≤M.nb.size:=by rw [T6.floor]; exact fs
    have H:Hm U M6 M5.nb.size jq M4.nb.size (.r b p,0,zP) (0+90):=⟨⟨D4.keep K46,fun i hi=>by
      rcases hi with hi | hi | hi
      · rw [T6.floor]; exact fu i hi
      · rw [hi,T6.floor]; exact fq
      · omega,by omega,cA,nU _ (by omega),by omega,(by show 0+40*(0+90)≤80000000000; decide),fun i hi=>by have:=ub i hi; omega⟩,h6,nU _ (by omega),by omega,by omega,by omega⟩
    have HX:Xm U M6 M5.nb.size jq M4.nb.size (.r b p,0,zP) []:=⟨rfl,fun i hi=>by simp [Sgs] at hi,fun a ha=>by cases ha⟩
    refine on (int_of a6 rfl) (on (int_of a6 rfl) (Cn.mono (c50 (k:=0) hw he H HX (by simp) fun _ _ _=>rfl) ?_))
    rintro _ N ⟨_,U',c',X',hT,E,H',HX',hAA⟩
    have isr:=isW_r (HeadT_isW hT)
    have bN:=(E.at b6 (nU _ (by omega)) (by omega)).1
    have zN:=E.chg.size
    have CE:Chg (fun i=>U i∨i=jq∨M.nb.size≤i) M N:=(T6.mono fun i _ h=>.inr (.inl h)).trans (E.chg.mono fun i _ h=>by rcases h with h | h | h | h <;> first | exact .inl h | omega)
    have far:∀ a,c'.2.2.A=some a→M6.nb.size≤a.block / 2:=fun a ha=>(hAA a ha).elim (fun q=>by cases q) id
    have nU':¬ U' M1.nb.size:=fun h=>by
      rcases E.sub _ h with h | h
      · exact nU _ (by omega) h
      · omega
    have sub:∀ i,U' i→U i∨M.nb.size≤i:=fun i hi=>(E.sub i hi).imp id fun h=>by omega
    refine on (int_of (i:=0+2) H'.st.cod rfl) (cne (fun hn=>on (int_of (i:=0+2) H'.st.cod rfl) (cF (decide_eq_false ?_) ?_)) fun hn=>?_)
    · intro hh
      have:(2*M1.nb.size:Nat)=2*M5.nb.size:=Option.some.inj hh
      omega
    · exact stA (cs:=zP.cs) bN (by rw [CE.floor]; omega) rfl rfl rfl fun N1 C1 z1 u1=>ldA u1 rfl ⟨U',c',X',hT,sub,CE.trans (C1.mono fun i _ h=>by omega),H'.st.dev.chg1 isr C1 (by omega) fun i hi h=>nU' (h ▸ hi),fun i hi=>by rw [z1]; exact H'.st.ub i hi,.inl ⟨by omega,rfl⟩⟩
    · exact ldA H'.hd rfl (stA (cs:=c'.2.2.cs) bN (by rw [CE.floor]; omega) rfl rfl rfl fun N1 C1 z1 u1=>ldA u1 rfl ⟨U',c',X',hT,sub,CE.trans (C1.mono fun i _ h=>by omega),H'.st.dev.chg1 isr C1 (by omega) fun i hi h=>nU' (h ▸ hi),fun i hi=>by rw [z1]; exact H'.st.ub i hi,.inr ⟨by omega,rfl,HX'.n,HX'.row.chg C1 fun a ha=>.inr fun h=>by have:=far a ha; omega,fun a ha=>.inr (by have:=far a ha; omega)⟩⟩)
end
end Go.Zt

/- The functions' walks: for each function and each loop a rule of what it comes to. Printed by zw2.py. -/
set_option linter.unusedVariables false
set_option maxRecDepth 100000
namespace Go.Zt
open Go Go.Sim Go.Proofs
def tyZlF0:List Sc:=[.bool,.int .i64,.bool,.bool,.int .i64,.int .i64,.int .i64,.int .i64,.int .i64,.int .i64,.int .i64,.int .i64,.int .i64,.int .i64,.int .i64,.int .i64,.int .i64,.bool,.int .i64,.int .i64,.int .i64,.int .i64,.int .i64,.bool,.int .i64,.int .i64,.sl,.bool,.bool,.bool]
def K36:List (List It × List Nat):=[([.code [1,1,1,1,1,1,1,1,1,1,0,1,0,0,1,0,0],.lp [1,1,1,1,1,1,1,1,1,1,0,1,0,0,1,0,0],.blk 0,.code [1,1,1,1,1,1,1,1,1,1,0,1,0,1],.code [1,1,1,1,1,1,1,1,1,1,1]],[3,4,6,7,8]),([.code [1,1,1,1,1,1,1,1,1,1,1,1,0,1,0,0],.lp [1,1,1,1,1,1,1,1,1,1,1,1,0,1,0,0],.blk 2,.code [1,1,1,1,1,1,1,1,1,1,1,1,1]],[3,4,6,7,9])]
def Z36:List (List Nat × List Nat):=[]
theorem b36:Try.prog.funcs[36]?=some Try.f36∧(Orc.tab Try.prog).lookup 36=none∧Try.f36.body=some (codeOf Try.f36):=⟨by kernel_rfl,by kernel_rfl,by kernel_rfl⟩
def A36_1 (x3 x4 x6 x7:Option Addr) (x8:Int) (M:Mem) (Q:Value→Mem→Prop):Prop:=LvP Try.prog Try.f36 [(3,.pointer x3),(4,.pointer x4),(6,.pointer x6),(7,.pointer x7),(8,.int .i64 x8)] [.code [1,1,1,1,1,1,1,1,1,1,0,1,0,0,1,0,0],.lp [1,1,1,1,1,1,1,1,1,1,0,1,0,0,1,0,0],.blk 0,.code [1,1,1,1,1,1,1,1,1,1,0,1,0,1],.code [1,1,1,1,1,1,1,1,1,1,1]] M Q
def A36_2 (x3 x4 x6 x7:Option Addr) (x9:Int) (M:Mem) (Q:Value→Mem→Prop):Prop:=LvP Try.prog Try.f36 [(3,.pointer x3),(4,.pointer x4),(6,.pointer x6),(7,.pointer x7),(9,.int .i64 x9)] [.code [1,1,1,1,1,1,1,1,1,1,1,1,0,1,0,0],.lp [1,1,1,1,1,1,1,1,1,1,1,1,0,1,0,0],.blk 2,.code [1,1,1,1,1,1,1,1,1,1,1,1,1]] M Q
theorem w36_0 {x0:Option Addr} {x1_0 x1_1:Int} {M:Mem} {Q:Value→Mem→Prop} (H:
 onS (((M.new (.cells #[.int .i64 x1_0,.int .i64 x1_1] 23)).new (.cells #[.bool false,.int .i64 0,.bool false,.bool false,.int .i64 0,.int .i64 0,.int .i64 0,.int .i64 0,.int .i64 0,.int .i64 0,.int .i64 0,.int .i64 0,.int .i64 0,.int .i64 0,.int .i64 0,.int .i64 0,.int .i64 0,.bool false,.int .i64 0,.int .i64 0,.int .i64 0,.int .i64 0,.int .i64 0,.bool false,.int .i64 0,.int .i64 0,.slice none 0 0,.bool false,.bool false,.bool false] 41)).intAt .i64 (2*M.nb.size) 0) fun x1'=>
 onS (((M.new (.cells #[.int .i64 x1_0,.int .i64 x1_1] 23)).new (.cells #[.bool false,.int .i64 0,.bool false,.bool false,.int .i64 0,.int .i64 0,.int .i64 0,.int .i64 0,.int .i64 0,.int .i64 0,.int .i64 0,.int .i64 0,.int .i64 0,.int .i64 0,.int .i64 0,.int .i64 0,.int .i64 0,.bool false,.int .i64 0,.int .i64 0,.int .i64 0,.int .i64 0,.int .i64 0,.bool false,.int .i64 0,.int .i64 0,.slice none 0 0,.bool false,.bool false,.bool false] 41)).intAt .i64 (2*M.nb.size) (0+1)) fun x2'=>
 Cn Try.prog 15 #[.agg #[.int .i64 x1',.int .i64 x2']] ((M.new (.cells #[.int .i64 x1_0,.int .i64 x1_1] 23)).new (.cells #[.bool false,.int .i64 0,.bool false,.bool false,.int .i64 0,.int .i64 0,.int .i64 0,.int .i64 0,.int .i64 0,.int .i64 0,.int .i64 0,.int .i64 0,.int .i64 0,.int .i64 0,.int .i64 0,.int .i64 0,.int .i64 0,.bool false,.int .i64 0,.int .i64 0,.int .i64 0,.int .i64 0,.int .i64 0,.bool false,.int .i64 0,.int .i64 0,.slice none 0 0,.bool false,.bool false,.bool false] 41)) fun v3' N3'=>
 tyS (asI .i64 v3') fun x4'=>
 cnd (x4' != 0) (
 stP (some 30) #[.bool false,.int .i64 0,.bool false,.bool false,.int .i64 0,.int .i64 0,.int .i64 0,.int .i64 0,.int .i64 0,.int .i64 0,.int .i64 0,.int .i64 0,.int .i64 0,.int .i64 0,.int .i64 0,.int .i64 0,.int .i64 0,.bool false,.int .i64 0,.int .i64 0,.int .i64 0,.int .i64 0,.int .i64 0,.bool false,.int .i64 0,.int .i64 0,.slice none 0 0,.bool false,.bool false,.bool false] N3' (2*(M.new (.cells #[.int .i64 x1_0,.int .i64 x1_1] 23)).nb.size) 0 fun M5'=>
 ldP tyZlF0 M5' (2*(M.new (.cells #[.int .i64 x1_0,.int .i64 x1_1] 23)).nb.size) 0 fun vs6'=>
 Q (.tuple #[.agg vs6'.toArray,.int .i64 2]) M5') (
 Cn Try.prog 68 #[.pointer (some ⟨2*N3'.nb.size,0,none⟩),.int .i64 1] ((N3'.new (.cells #[.pointer x0,.int .i64 0] 109)).new (.cells #[.bool false,.int .i64 0,.bool false,.bool false,.int .i64 0,.int .i64 0,.int .i64 0,.int .i64 0,.int .i64 0,.int .i64 0,.int .i64 0,.int .i64 0,.int .i64 0,.int .i64 0,.int .i64 0,.int .i64 0,.int .i64 0,.bool false,.int .i64 0,.int .i64 0,.int .i64 0,.int .i64 0,.int .i64 0,.bool false,.int .i64 0,.int .i64 0,.slice none 0 0,.bool false,.bool false,.bool false] 41)) fun v7' N7'=>
 tyS (asI .i64 v7') fun x8'=>
 ptS (N7'.put (2*(N3'.new (.cells #[.pointer x0,.int .i64 0] 109)).nb.size) 0 (.bool (x8' == 1))) fun M9'=>
 onS (M9'.boolAt (2*(N3'.new (.cells #[.pointer x0,.int .i64 0] 109)).nb.size) 0) fun b10'=>
 cnd b10' (
 Cn Try.prog 68 #[.pointer (some ⟨2*N3'.nb.size,0,none⟩),.int .i64 3] M9' fun v11' N11'=>
 tyS (asI .i64 v11') fun x12'=>
 ptS (N11'.put (2*(N3'.new (.cells #[.pointer x0,.int .i64 0] 109)).nb.size) (0+1) (.int .i64 x12')) fun M13'=>
 onS (M13'.intAt .i64 (2*N3'.nb.size) (0+1)) fun x14'=>
 cnd (x14' != 0) (
 onS (M13'.intAt .i64 (2*N3'.nb.size) (0+1)) fun x15'=>
 cnd (decide (Option.map (fun a:Addr=>a.block) (some ⟨2*(M.new (.cells #[.int .i64 x1_0,.int .i64 x1_1] 23)).nb.size,0,none⟩)=some (2*N3'.nb.size))) (
 False) (
 stP (some 30) #[.bool false,.int .i64 0,.bool false,.bool false,.int .i64 0,.int .i64 0,.int .i64 0,.int .i64 0,.int .i64 0,.int .i64 0,.int .i64 0,.int .i64 0,.int .i64 0,.int .i64 0,.int .i64 0,.int .i64 0,.int .i64 0,.bool false,.int .i64 0,.int .i64 0,.int .i64 0,.int .i64 0,.int .i64 0,.bool false,.int .i64 0,.int .i64 0,.slice none 0 0,.bool false,.bool false,.bool false] M13' (2*(M.new (.cells #[.int .i64 x1_0,.int .i64 x1_1] 23)).nb.size) 0 fun M16'=>
 ldP tyZlF0 M16' (2*(M.new (.cells #[.int .i64 x1_0,.int .i64 x1_1] 23)).nb.size) 0 fun vs17'=>
 Q (.tuple #[.agg vs17'.toArray,.int .i64 (x15')]) M16')) (
 ldP tyZlF0 M13' (2*(N3'.new (.cells #[.pointer x0,.int .i64 0] 109)).nb.size) 0 fun vs18'=>
 stP (some 30) vs18'.toArray M13' (2*(M.new (.cells #[.int .i64 x1_0,.int .i64 x1_1] 23)).nb.size) 0 fun M19'=>
 ldP tyZlF0 M19' (2*(M.new (.cells #[.int .i64 x1_0,.int .i64 x1_1] 23)).nb.size) 0 fun vs20'=>
 Q (.tuple #[.agg vs20'.toArray,.int .i64 0]) M19')) (
 Cn Try.prog 68 #[.pointer (some ⟨2*N3'.nb.size,0,none⟩),.int .i64 1] M9' fun v21' N21'=>
 tyS (asI .i64 v21') fun x22'=>
 ptS (N21'.put (2*(N3'.new (.cells #[.pointer x0,.int .i64 0] 109)).nb.size) (0+2) (.bool (x22' == 1))) fun M23'=>
 Cn Try.prog 68 #[.pointer (some ⟨2*N3'.nb.size,0,none⟩),.int .i64 1] M23' fun v24' N24'=>
 tyS (asI .i64 v24') fun x25'=>
 ptS (N24'.put (2*(N3'.new (.cells #[.pointer x0,.int .i64 0] 109)).nb.size) (0+3) (.bool (x25' == 1))) fun M26'=>
 Cn Try.prog 68 #[.pointer (some ⟨2*N3'.nb.size,0,none⟩),.int .i64 8] M26' fun v27' N27'=>
 tyS (asI .i64 v27') fun x28'=>
 ptS (N27'.put (2*(N3'.new (.cells #[.pointer x0,.int .i64 0] 109)).nb.size) (0+4) (.int .i64 x28')) fun M29'=>
 ptS (M29'.put (2*(N3'.new (.cells #[.pointer x0,.int .i64 0] 109)).nb.size) (0+8) (.int .i64 (-1))) fun M30'=>
 onS (M30'.boolAt (2*(N3'.new (.cells #[.pointer x0,.int .i64 0] 109)).nb.size) (0+3)) fun b31'=>
 cnd (!b31') (
 A36_1 (some ⟨2*M.nb.size,0,none⟩) (some ⟨2*(M.new (.cells #[.int .i64 x1_0,.int .i64 x1_1] 23)).nb.size,0,none⟩) (some ⟨2*N3'.nb.size,0,none⟩) (some ⟨2*(N3'.new (.cells #[.pointer x0,.int .i64 0] 109)).nb.size,0,none⟩) 0 M30' Q) (
 Cn Try.prog 68 #[.pointer (some ⟨2*N3'.nb.size,0,none⟩),.int .i64 8] M30' fun v32' N32'=>
 tyS (asI .i64 v32') fun x33'=>
 ptS (N32'.put (2*(N3'.new (.cells #[.pointer x0,.int .i64 0] 109)).nb.size) (0+9) (.int .i64 x33')) fun M34'=>
 A36_2 (some ⟨2*M.nb.size,0,none⟩) (some ⟨2*(M.new (.cells #[.int .i64 x1_0,.int .i64 x1_1] 23)).nb.size,0,none⟩) (some ⟨2*N3'.nb.size,0,none⟩) (some ⟨2*(N3'.new (.cells #[.pointer x0,.int .i64 0] 109)).nb.size,0,none⟩) 0 M34' Q)))):
 Cn Try.prog 36 #[.pointer x0,.agg #[.int .i64 x1_0,.int .i64 x1_1]] M Q:=
 Cn.mk (cuts:=K36) (sp:=Z36) 900 b36 rfl rfl H fun G=>by kernel_rfl
theorem w36_1 {x3 x4 x6 x7:Option Addr} {x8:Int} {M:Mem} {Q:Value→Mem→Prop} (H:
 cnd (decide (x8<3)) (
 Cn Try.prog 68 #[.pointer x6,.int .i64 3] M fun v35' N35'=>
 tyS (asI .i64 v35') fun x36'=>
 adS x7 fun a37'=>
 ixS (idxA (some ⟨a37'.block,a37'.off+5,none⟩) 3 1 x8) fun a38'=>
 ptS (N35'.put a38'.block a38'.off (.int .i64 x36')) fun M39'=>
 A36_1 x3 x4 x6 x7 (IntKind.i64.wrap (x8+1)) M39' Q) (
 Cn Try.prog 68 #[.pointer x6,.int .i64 1] M fun v40' N40'=>
 tyS (asI .i64 v40') fun x41'=>
 cnd (x41' == 1) (
 Cn Try.prog 68 #[.pointer x6,.int .i64 3] N40' fun v42' N42'=>
 tyS (asI .i64 v42') fun x43'=>
 adS x7 fun a44'=>
 ptS (N42'.put a44'.block (a44'.off+8) (.int .i64 x43')) fun M45'=>
 Cn Try.prog 68 #[.pointer x6,.int .i64 8] M45' fun v46' N46'=>
 tyS (asI .i64 v46') fun x47'=>
 adS x7 fun a48'=>
 ptS (N46'.put a48'.block (a48'.off+9) (.int .i64 x47')) fun M49'=>
 A36_2 x3 x4 x6 x7 0 M49' Q) (
 Cn Try.prog 68 #[.pointer x6,.int .i64 8] N40' fun v50' N50'=>
 tyS (asI .i64 v50') fun x51'=>
 adS x7 fun a52'=>
 ptS (N50'.put a52'.block (a52'.off+9) (.int .i64 x51')) fun M53'=>
 A36_2 x3 x4 x6 x7 0 M53' Q))):
 A36_1 x3 x4 x6 x7 x8 M Q:=
 LvP.mk (cuts:=K36) (sp:=Z36) 900 H fun G=>by kernel_rfl
theorem w36_2 {x3 x4 x6 x7:Option Addr} {x9:Int} {M:Mem} {Q:Value→Mem→Prop} (H:
 cnd (decide (x9<5)) (
 Cn Try.prog 69 #[.pointer x6] M fun v54' N54'=>
 tyS (asI .i64 v54') fun x55'=>
 adS x7 fun a56'=>
 ixS (idxA (some ⟨a56'.block,a56'.off+10,none⟩) 5 1 x9) fun a57'=>
 ptS (N54'.put a57'.block a57'.off (.int .i64 x55')) fun M58'=>
 A36_2 x3 x4 x6 x7 (IntKind.i64.wrap (x9+1)) M58' Q) (
 adS x3 fun a59'=>
 onS (M.intAt .i64 a59'.block a59'.off) fun x60'=>
 Cn Try.prog 70 #[.pointer x6,.int .i64 x60'] M fun v61' N61'=>
 tyS (asI .i64 v61') fun x62'=>
 adS x7 fun a63'=>
 ptS (N61'.put a63'.block (a63'.off+15) (.int .i64 x62')) fun M64'=>
 adS x3 fun a65'=>
 onS (M64'.intAt .i64 a65'.block (a65'.off+1)) fun x66'=>
 Cn Try.prog 70 #[.pointer x6,.int .i64 x66'] M64' fun v67' N67'=>
 tyS (asI .i64 v67') fun x68'=>
 adS x7 fun a69'=>
 ptS (N67'.put a69'.block (a69'.off+16) (.int .i64 x68')) fun M70'=>
 Cn Try.prog 68 #[.pointer x6,.int .i64 1] M70' fun v71' N71'=>
 tyS (asI .i64 v71') fun x72'=>
 adS x7 fun a73'=>
 ptS (N71'.put a73'.block (a73'.off+17) (.bool (x72' == 1))) fun M74'=>
 adS x7 fun a75'=>
 ldP tyZlF0 M74' a75'.block a75'.off fun vs76'=>
 Cn Try.prog 54 #[.agg vs76'.toArray] M74' fun v77' N77'=>
 tyS (asB v77') fun b78'=>
 cnd (!b78') (
 adS x7 fun a79'=>
 ldP tyZlF0 N77' a79'.block a79'.off fun vs80'=>
 Cn Try.prog 71 #[.pointer x6,.agg vs80'.toArray] N77' fun v81' N81'=>
 tyS (asA 30 v81') fun cs82'=>
 asCellsP tyZlF0 0 cs82' fun vs83'=>
 adS x7 fun a84'=>
 stP (some 30) vs83'.toArray N81' a84'.block a84'.off fun M85'=>
 adS x6 fun a86'=>
 onS (M85'.intAt .i64 a86'.block (a86'.off+1)) fun x87'=>
 cnd (x87' != 0) (
 adS x6 fun a88'=>
 onS (M85'.intAt .i64 a88'.block (a88'.off+1)) fun x89'=>
 cnd (decide (Option.map (fun a:Addr=>a.block) x4=some a88'.block)) (
 False) (
 adS x4 fun a90'=>
 stP (some 30) #[.bool false,.int .i64 0,.bool false,.bool false,.int .i64 0,.int .i64 0,.int .i64 0,.int .i64 0,.int .i64 0,.int .i64 0,.int .i64 0,.int .i64 0,.int .i64 0,.int .i64 0,.int .i64 0,.int .i64 0,.int .i64 0,.bool false,.int .i64 0,.int .i64 0,.int .i64 0,.int .i64 0,.int .i64 0,.bool false,.int .i64 0,.int .i64 0,.slice none 0 0,.bool false,.bool false,.bool false] M85' a90'.block a90'.off fun M91'=>
 adS x4 fun a92'=>
 ldP tyZlF0 M91' a92'.block a92'.off fun vs93'=>
 Q (.tuple #[.agg vs93'.toArray,.int .i64 (x89')]) M91')) (
 adS x7 fun a94'=>
 ldP tyZlF0 M85' a94'.block a94'.off fun vs95'=>
 adS x4 fun a96'=>
 stP (some 30) vs95'.toArray M85' a96'.block a96'.off fun M97'=>
 adS x4 fun a98'=>
 ldP tyZlF0 M97' a98'.block a98'.off fun vs99'=>
 Q (.tuple #[.agg vs99'.toArray,.int .i64 0]) M97')) (
 adS x6 fun a100'=>
 onS (N77'.intAt .i64 a100'.block (a100'.off+1)) fun x101'=>
 cnd (x101' != 0) (
 adS x6 fun a102'=>
 onS (N77'.intAt .i64 a102'.block (a102'.off+1)) fun x103'=>
 cnd (decide (Option.map (fun a:Addr=>a.block) x4=some a102'.block)) (
 False) (
 adS x4 fun a104'=>
 stP (some 30) #[.bool false,.int .i64 0,.bool false,.bool false,.int .i64 0,.int .i64 0,.int .i64 0,.int .i64 0,.int .i64 0,.int .i64 0,.int .i64 0,.int .i64 0,.int .i64 0,.int .i64 0,.int .i64 0,.int .i64 0,.int .i64 0,.bool false,.int .i64 0,.int .i64 0,.int .i64 0,.int .i64 0,.int .i64 0,.bool false,.int .i64 0,.int .i64 0,.slice none 0 0,.bool false,.bool false,.bool false] N77' a104'.block a104'.off fun M105'=>
 adS x4 fun a106'=>
 ldP tyZlF0 M105' a106'.block a106'.off fun vs107'=>
 Q (.tuple #[.agg vs107'.toArray,.int .i64 (x103')]) M105')) (
 adS x7 fun a108'=>
 ldP tyZlF0 N77' a108'.block a108'.off fun vs109'=>
 adS x4 fun a110'=>
 stP (some 30) vs109'.toArray N77' a110'.block a110'.off fun M111'=>
 adS x4 fun a112'=>
 ldP tyZlF0 M111' a112'.block a112'.off fun vs113'=>
 Q (.tuple #[.agg vs113'.toArray,.int .i64 0]) M111')))):
 A36_2 x3 x4 x6 x7 x9 M Q:=
 LvP.mk (cuts:=K36) (sp:=Z36) 900 H fun G=>by kernel_rfl
def K68:List (List It × List Nat):=[]
def Z68:List (List Nat × List Nat):=[]
theorem b68:Try.prog.funcs[68]?=some Try.f68∧(Orc.tab Try.prog).lookup 68=none∧Try.f68.body=some (codeOf Try.f68):=⟨by kernel_rfl,by kernel_rfl,by kernel_rfl⟩
theorem w68_0 {x0:Option Addr} {x1:Int} {M:Mem} {Q:Value→Mem→Prop} (H:
 adS x0 fun a1'=>
 onS (M.intAt .i64 a1'.block (a1'.off+1)) fun x2'=>
 cnd (x2' != 0) (
 Q (.int .i64 0) M) (
 adS x0 fun a3'=>
 onS (M.ptrAt a3'.block a3'.off) fun p4'=>
 Cn Try.prog 34 #[.pointer p4',.int .i64 x1] M fun v5' N5'=>
 tyS (asU 2 v5') fun cs6'=>
 tyS (asI .u32 (cs6'.getD 0 undef)) fun x7'=>
 tyS (asI .i64 (cs6'.getD 1 undef)) fun x8'=>
 adS x0 fun a9'=>
 ptS (N5'.put a9'.block (a9'.off+1) (.int .i64 x8')) fun M10'=>
 Q (.int .i64 (IntKind.i64.wrap (x7'))) M10')):
 Cn Try.prog 68 #[.pointer x0,.int .i64 x1] M Q:=
 Cn.mk (cuts:=K68) (sp:=Z68) 900 b68 rfl rfl H fun G=>by kernel_rfl
def K69:List (List It × List Nat):=[([.code [1,0,1],.code [1,1]],[0,14]),([.code [1,1,1,1,0,1],.code [1,1,1,1,1]],[0,3,32])]
def Z69:List (List Nat × List Nat):=[]
theorem b69:Try.prog.funcs[69]?=some Try.f69∧(Orc.tab Try.prog).lookup 69=none∧Try.f69.body=some (codeOf Try.f69):=⟨by kernel_rfl,by kernel_rfl,by kernel_rfl⟩
def A69_1 (x0:Option Addr) (x14:Bool) (M:Mem) (Q:Value→Mem→Prop):Prop:=LvP Try.prog Try.f69 [(0,.pointer x0),(14,.bool x14)] [.code [1,0,1],.code [1,1]] M Q
def A69_2 (x0:Option Addr) (x3:Int) (x32:Bool) (M:Mem) (Q:Value→Mem→Prop):Prop:=LvP Try.prog Try.f69 [(0,.pointer x0),(3,.int .i32 x3),(32,.bool x32)] [.code [1,1,1,1,0,1],.code [1,1,1,1,1]] M Q
theorem w69_0 {x0:Option Addr} {M:Mem} {Q:Value→Mem→Prop} (H:
 Cn Try.prog 68 #[.pointer x0,.int .i64 1] M fun v1' N1'=>
 tyS (asI .i64 v1') fun x2'=>
 cnd (x2' == 0) (
 A69_1 x0 true N1' Q) (
 adS x0 fun a3'=>
 onS (N1'.intAt .i64 a3'.block (a3'.off+1)) fun x4'=>
 A69_1 x0 (x4' != 0) N1' Q)):
 Cn Try.prog 69 #[.pointer x0] M Q:=
 Cn.mk (cuts:=K69) (sp:=Z69) 900 b69 rfl rfl H fun G=>by kernel_rfl
theorem w69_1 {x0:Option Addr} {x14:Bool} {M:Mem} {Q:Value→Mem→Prop} (H:
 cnd x14 (
 Q (.int .i64 0) M) (
 adS x0 fun a5'=>
 onS (M.ptrAt a5'.block a5'.off) fun p6'=>
 Cn Try.prog 81 #[.pointer p6',.int .i64 5] M fun v7' N7'=>
 tyS (asU 2 v7') fun cs8'=>
 tyS (asI .i32 (cs8'.getD 0 undef)) fun x9'=>
 tyS (asI .i64 (cs8'.getD 1 undef)) fun x10'=>
 adS x0 fun a11'=>
 ptS (N7'.put a11'.block (a11'.off+1) (.int .i64 x10')) fun M12'=>
 cnd (x10' == 0) (
 A69_2 x0 x9' (x9' == 0) M12' Q) (
 A69_2 x0 x9' false M12' Q))):
 A69_1 x0 x14 M Q:=
 LvP.mk (cuts:=K69) (sp:=Z69) 900 H fun G=>by kernel_rfl
theorem w69_2 {x0:Option Addr} {x3:Int} {x32:Bool} {M:Mem} {Q:Value→Mem→Prop} (H:
 cnd x32 (
 adS x0 fun a13'=>
 ptS (M.put a13'.block (a13'.off+1) (.int .i64 4)) fun M14'=>
 Q (.int .i64 (IntKind.i64.wrap (x3))) M14') (
 Q (.int .i64 (IntKind.i64.wrap (x3))) M)):
 A69_2 x0 x3 x32 M Q:=
 LvP.mk (cuts:=K69) (sp:=Z69) 900 H fun G=>by kernel_rfl
def K70:List (List It × List Nat):=[([.code [1,1,0,1],.code [1,1,1]],[0,5,23])]
def Z70:List (List Nat × List Nat):=[]
theorem b70:Try.prog.funcs[70]?=some Try.f70∧(Orc.tab Try.prog).lookup 70=none∧Try.f70.body=some (codeOf Try.f70):=⟨by kernel_rfl,by kernel_rfl,by kernel_rfl⟩
def A70_1 (x0:Option Addr) (x5:Int) (x23:Bool) (M:Mem) (Q:Value→Mem→Prop):Prop:=LvP Try.prog Try.f70 [(0,.pointer x0),(5,.int .i64 x5),(23,.bool x23)] [.code [1,1,0,1],.code [1,1,1]] M Q
theorem w70_0 {x0:Option Addr} {x1:Int} {M:Mem} {Q:Value→Mem→Prop} (H:
 Cn Try.prog 68 #[.pointer x0,.int .i64 2] M fun v1' N1'=>
 tyS (asI .i64 v1') fun x2'=>
 adS x0 fun a3'=>
 onS (N1'.intAt .i64 a3'.block (a3'.off+1)) fun x4'=>
 cnd (x4' == 0) (
 puS (binV Try.prog .shl 3 3 (.int .i64 1) (.int .i64 x2')) fun v5'=>
 tyS (asI .i64 v5') fun x6'=>
 Cn Try.prog 59 #[.int .i64 x1] N1' fun v7' N7'=>
 tyS (asI .i64 v7') fun x8'=>
 cnd (decide (x6' > x8')) (
 A70_1 x0 x2' true N7' Q) (
 A70_1 x0 x2' (decide (x2' > 2)) N7' Q)) (
 A70_1 x0 x2' (decide (x2' > 2)) N1' Q)):
 Cn Try.prog 70 #[.pointer x0,.int .i64 x1] M Q:=
 Cn.mk (cuts:=K70) (sp:=Z70) 900 b70 rfl rfl H fun G=>by kernel_rfl
theorem w70_1 {x0:Option Addr} {x5:Int} {x23:Bool} {M:Mem} {Q:Value→Mem→Prop} (H:
 cnd x23 (
 adS x0 fun a9'=>
 ptS (M.put a9'.block (a9'.off+1) (.int .i64 5)) fun M10'=>
 Q (.int .i64 x5) M10') (
 Q (.int .i64 x5) M)):
 A70_1 x0 x5 x23 M Q:=
 LvP.mk (cuts:=K70) (sp:=Z70) 900 H fun G=>by kernel_rfl
def K71:List (List It × List Nat):=[([.code [1,0,1,0,0],.lp [1,0,1,0,0],.blk 0,.code [1,1]],[0,3,4,5]),([.code [1,1,1,1,0,1,0,1,1,1,0,0],.lp [1,1,1,1,0,1,0,1,1,1,0,0],.blk 2,.code [1,1,1,1,1]],[0,3,4,6]),([.code [1,1,1,1,1,0,1,0,0],.lp [1,1,1,1,1,0,1,0,0],.blk 4,.code [1,1,1,1,1,1]],[0,3,4,8])]
def Z71:List (List Nat × List Nat):=[]
theorem b71:Try.prog.funcs[71]?=some Try.f71∧(Orc.tab Try.prog).lookup 71=none∧Try.f71.body=some (codeOf Try.f71):=⟨by kernel_rfl,by kernel_rfl,by kernel_rfl⟩
def A71_1 (x0 x3 x4:Option Addr) (x5:Int) (M:Mem) (Q:Value→Mem→Prop):Prop:=LvP Try.prog Try.f71 [(0,.pointer x0),(3,.pointer x3),(4,.pointer x4),(5,.int .i64 x5)] [.code [1,0,1,0,0],.lp [1,0,1,0,0],.blk 0,.code [1,1]] M Q
def A71_2 (x0 x3 x4:Option Addr) (x6:Int) (M:Mem) (Q:Value→Mem→Prop):Prop:=LvP Try.prog Try.f71 [(0,.pointer x0),(3,.pointer x3),(4,.pointer x4),(6,.int .i64 x6)] [.code [1,1,1,1,0,1,0,1,1,1,0,0],.lp [1,1,1,1,0,1,0,1,1,1,0,0],.blk 2,.code [1,1,1,1,1]] M Q
def A71_3 (x0 x3 x4:Option Addr) (x8:Int) (M:Mem) (Q:Value→Mem→Prop):Prop:=LvP Try.prog Try.f71 [(0,.pointer x0),(3,.pointer x3),(4,.pointer x4),(8,.int .i64 x8)] [.code [1,1,1,1,1,0,1,0,0],.lp [1,1,1,1,1,0,1,0,0],.blk 4,.code [1,1,1,1,1,1]] M Q
theorem w71_0 {x0:Option Addr} {x1:Array Value} {M:Mem} {Q:Value→Mem→Prop} (H:
 A71_1 x0 (some ⟨2*M.nb.size,0,none⟩) (some ⟨2*(M.new (.cells x1 41)).nb.size,0,none⟩) 0 ((M.new (.cells x1 41)).new (.cells #[.bool false,.int .i64 0,.bool false,.bool false,.int .i64 0,.int .i64 0,.int .i64 0,.int .i64 0,.int .i64 0,.int .i64 0,.int .i64 0,.int .i64 0,.int .i64 0,.int .i64 0,.int .i64 0,.int .i64 0,.int .i64 0,.bool false,.int .i64 0,.int .i64 0,.int .i64 0,.int .i64 0,.int .i64 0,.bool false,.int .i64 0,.int .i64 0,.slice none 0 0,.bool false,.bool false,.bool false] 41)) Q):
 Cn Try.prog 71 #[.pointer x0,.agg x1] M Q:=
 Cn.mk (cuts:=K71) (sp:=Z71) 900 b71 rfl rfl H fun G=>by kernel_rfl
theorem w71_1 {x0 x3 x4:Option Addr} {x5:Int} {M:Mem} {Q:Value→Mem→Prop} (H:
 cnd (decide (x5<4)) (
 Cn Try.prog 68 #[.pointer x0,.int .i64 6] M fun v1' N1'=>
 tyS (asI .i64 v1') fun x2'=>
 adS x3 fun a3'=>
 ixS (idxA (some ⟨a3'.block,a3'.off+18,none⟩) 4 1 x5) fun a4'=>
 ptS (N1'.put a4'.block a4'.off (.int .i64 x2')) fun M5'=>
 A71_1 x0 x3 x4 (IntKind.i64.wrap (x5+1)) M5' Q) (
 Cn Try.prog 68 #[.pointer x0,.int .i64 3] M fun v6' N6'=>
 tyS (asI .i64 v6') fun x7'=>
 adS x3 fun a8'=>
 ptS (N6'.put a8'.block (a8'.off+22) (.int .i64 x7')) fun M9'=>
 Cn Try.prog 68 #[.pointer x0,.int .i64 1] M9' fun v10' N10'=>
 tyS (asI .i64 v10') fun x11'=>
 adS x3 fun a12'=>
 ptS (N10'.put a12'.block (a12'.off+23) (.bool (x11' == 1))) fun M13'=>
 adS x3 fun a14'=>
 onS (M13'.boolAt a14'.block (a14'.off+23)) fun b15'=>
 cnd b15' (
 Cn Try.prog 68 #[.pointer x0,.int .i64 2] M13' fun v16' N16'=>
 tyS (asI .i64 v16') fun x17'=>
 adS x3 fun a18'=>
 ptS (N16'.put a18'.block (a18'.off+24) (.int .i64 (IntKind.i64.wrap (3+x17')))) fun M19'=>
 Cn Try.prog 68 #[.pointer x0,.int .i64 2] M19' fun v20' N20'=>
 tyS (asI .i64 v20') fun x21'=>
 adS x3 fun a22'=>
 ptS (N20'.put a22'.block (a22'.off+25) (.int .i64 x21')) fun M23'=>
 A71_2 x0 x3 x4 0 M23' Q) (
 A71_3 x0 x3 x4 0 M13' Q))):
 A71_1 x0 x3 x4 x5 M Q:=
 LvP.mk (cuts:=K71) (sp:=Z71) 900 H fun G=>by kernel_rfl
theorem w71_2 {x0 x3 x4:Option Addr} {x6:Int} {M:Mem} {Q:Value→Mem→Prop} (H:
 adS x3 fun a24'=>
 onS (M.intAt .i64 a24'.block (a24'.off+25)) fun x25'=>
 puS (binV Try.prog .shl 3 3 (.int .i64 1) (.int .i64 x25')) fun v26'=>
 tyS (asI .i64 v26') fun x27'=>
 cnd (decide (x6<x27')) (
 Cn Try.prog 68 #[.pointer x0,.int .i64 4] (M.new (.cells #[.int .i64 0,.int .i64 0,.int .i64 0,.int .i64 0] 96)) fun v28' N28'=>
 tyS (asI .i64 v28') fun x29'=>
 ptS (N28'.put (2*M.nb.size) 0 (.int .i64 x29')) fun M30'=>
 Cn Try.prog 68 #[.pointer x0,.int .i64 2] M30' fun v31' N31'=>
 tyS (asI .i64 v31') fun x32'=>
 ptS (N31'.put (2*M.nb.size) (0+1) (.int .i64 x32')) fun M33'=>
 Cn Try.prog 68 #[.pointer x0,.int .i64 4] M33' fun v34' N34'=>
 tyS (asI .i64 v34') fun x35'=>
 ptS (N34'.put (2*M.nb.size) (0+2) (.int .i64 x35')) fun M36'=>
 Cn Try.prog 68 #[.pointer x0,.int .i64 2] M36' fun v37' N37'=>
 tyS (asI .i64 v37') fun x38'=>
 ptS (N37'.put (2*M.nb.size) (0+3) (.int .i64 x38')) fun M39'=>
 adS x3 fun a40'=>
 onS (M39'.slAt a40'.block (a40'.off+26)) fun s41'=>
 onS (M39'.intAt .i64 (2*M.nb.size) 0) fun x42'=>
 onS (M39'.intAt .i64 (2*M.nb.size) (0+1)) fun x43'=>
 onS (M39'.intAt .i64 (2*M.nb.size) (0+2)) fun x44'=>
 onS (M39'.intAt .i64 (2*M.nb.size) (0+3)) fun x45'=>
 meS (appendP Try.prog #[38,38] (.slice s41'.1 (s41'.2.1) (s41'.2.2)) (.slice (some ⟨2*M39'.nb.size,0,none⟩) 1 1) (M39'.new (.cells #[.int .i64 x42',.int .i64 x43',.int .i64 x44',.int .i64 x45'] 96))) fun r46'=>
 tyS (asS r46'.1) fun s47'=>
 adS x3 fun a48'=>
 ptS (r46'.2.put a48'.block (a48'.off+26) (.slice s47'.1 (s47'.2.1) (s47'.2.2))) fun M49'=>
 A71_2 x0 x3 x4 (IntKind.i64.wrap (x6+1)) M49' Q) (
 A71_3 x0 x3 x4 0 M Q)):
 A71_2 x0 x3 x4 x6 M Q:=
 LvP.mk (cuts:=K71) (sp:=Z71) 900 H fun G=>by kernel_rfl
theorem w71_3 {x0 x3 x4:Option Addr} {x8:Int} {M:Mem} {Q:Value→Mem→Prop} (H:
 cnd (decide (x8<3)) (
 Cn Try.prog 68 #[.pointer x0,.int .i64 1] M fun v50' N50'=>
 tyS (asI .i64 v50') fun x51'=>
 adS x3 fun a52'=>
 ixS (idxA (some ⟨a52'.block,a52'.off+27,none⟩) 3 1 x8) fun a53'=>
 ptS (N50'.put a53'.block a53'.off (.bool (x51' == 1))) fun M54'=>
 A71_3 x0 x3 x4 (IntKind.i64.wrap (x8+1)) M54' Q) (
 adS x3 fun a55'=>
 ldP tyZlF0 M a55'.block a55'.off fun vs56'=>
 adS x4 fun a57'=>
 stP (some 30) vs56'.toArray M a57'.block a57'.off fun M58'=>
 adS x4 fun a59'=>
 ldP tyZlF0 M58' a59'.block a59'.off fun vs60'=>
 Q (.agg vs60'.toArray) M58')):
 A71_3 x0 x3 x4 x8 M Q:=
 LvP.mk (cuts:=K71) (sp:=Z71) 900 H fun G=>by kernel_rfl
end Go.Zt

/- Layer 20: HeadsReads: the document's reader of headers. -/
set_option linter.unusedSimpArgs false
set_option linter.unusedVariables false
set_option maxRecDepth 100000
namespace Go.Zt
open Go Go.Sim Go.Proofs Go.RowKit
abbrev zH:Hd:=⟨false,0,false,false,0,0,0,0,0,0,0,0,0,0,0,0,0,false,0,0,0,0,0,false,0,0,none,0,0,false,false,false⟩
abbrev RS:=Nat × Nat × Hd
def getR (b:List Nat) (p e:Nat) (n:Int):Nat × Nat × Nat:=if e≠0 then (p,e,0) else ((rFixed b p n).2.2,(rFixed b p n).2.1,(rFixed b p n).1)
def gI (b:List Nat) (r:RS) (n f:Int) (s:Int→Hd):RS:=((getR b r.1 r.2.1 n).1,(getR b r.1 r.2.1 n).2.1,s ((getR b r.1 r.2.1 n).2.2+f))
def gB (b:List Nat) (r:RS) (s:Bool→Hd):RS:=((getR b r.1 r.2.1 1).1,(getR b r.1 r.2.1 1).2.1,s ((getR b r.1 r.2.1 1).2.2 == 1))
def delR (b:List Nat) (p e:Nat):Nat × Nat × Int:=
  let g:=getR b p e 1
  if g.2.2=0∨g.2.1≠0 then (g.1,g.2.1,0) else
  ((rSigned b g.1 5).2.2,if (rSigned b g.1 5).2.1=0∧(rSigned b g.1 5).1=0 then 4 else (rSigned b g.1 5).2.1,(rSigned b g.1 5).1)
def logR (b:List Nat) (p e:Nat) (s:Int):Nat × Nat × Int:=
  let g:=getR b p e 2
  if g.2.1=0∧logM g.2.2 s=false∨(2:Int)<g.2.2 then (g.1,5,g.2.2) else (g.1,g.2.1,g.2.2)
structure Rm (S:Nat→Prop) (M:Mem) (jr jq jh:Nat) (b:List Nat) (r:RS):Prop where
  rd:RefR S M jq b r.1
  cod:M.nb[jr]?=some (.cells #[PtrB jq,.int .i64 (r.2.1:Nat)] 109)
  hd:M.nb[jh]?=some (.cells r.2.2.cs 41)
  n1:jr≠jq
  n2:jh≠jq
  n3:jh≠jr
  s1:¬ S jr
  s2:¬ S jh
  fr:M.floor≤jr
  fq:M.floor≤jq
  fh:M.floor≤jh
  fs:M.floor≤M.nb.size
  su:∀ i,S i→i<jq
abbrev Ch (jr jq jh lo:Nat):Mem→Mem→Prop:=Chg (fun i=>(i=jr∨i=jq∨i=jh)∨lo≤i)
section
variable {S:Nat→Prop} {M N M0:Mem} {jr jq jh lo:Nat} {b:List Nat} {r:RS}
theorem getR_pow {p e:Nat} {n:Int}:(getR b p e n).2.2<2 ^ n.toNat:=by
  have h1:0<2 ^ n.toNat:=Nat.pow_pos (by decide)
  unfold getR rFixed
  split
  · exact h1
  · split
    · exact h1
    · split
      · exact h1
      · exact numb_lt (f:=bitOf b) (fun i=>Nat.mod_lt _ (by decide)) p n.toNat
theorem getR_lt {p e:Nat} {n:Int} (h0:0≤n) (h1:n≤8):(getR b p e n).2.2<256:=by
  unfold getR rFixed
  split
  · show 0<256; decide
  · split
    · show 0<256; decide
    · split
      · show 0<256; decide
      · have:=numb_lt (f:=bitOf b) (fun i=>Nat.mod_lt _ (by decide)) p n.toNat
        have:2 ^ n.toNat≤2 ^ 8:=Nat.pow_le_pow_right (by decide) (by omega)
        show numb (bitOf b) p n.toNat<256
        omega
theorem Rm.chg {T:Nat→Prop} (R:Rm S M jr jq jh b r) (k:Chg T M N) (h1:¬ T jr) (h2:¬ T jq) (h3:¬ T jh) (hS:∀ i,S i→¬ T i):Rm S N jr jq jh b r:=
  ⟨R.rd.chg k h2 hS,at_chg R.cod k h1,at_chg R.hd k h3,R.n1,R.n2,R.n3,R.s1,R.s2,by rw [k.floor]; exact R.fr,by rw [k.floor]; exact R.fq,by rw [k.floor]; exact R.fh,by rw [k.floor]; exact Nat.le_trans R.fs k.size,R.su⟩
theorem Rm.keep (R:Rm S M jr jq jh b r) (k:Keep M N):Rm S N jr jq jh b r:=R.chg k (fun h=>h) (fun h=>h) (fun h=>h) fun _ _ h=>h
theorem Rm.err (R:Rm S M jr jq jh b r) (e:Nat):∃ N,M.put (2*jr) 1 (.int .i64 (e:Nat))=some N∧Chg (· = jr) M N∧N.nb.size=M.nb.size∧Rm S N jr jq jh b (r.1,e,r.2.2):=by
  obtain ⟨N,p,C,s,u⟩:=put1 1 (.int .i64 (e:Nat)) R.cod R.fr (by simp) rfl
  exact ⟨N,p,C,s,R.rd.chg C (fun h=>R.n1 h.symm) fun i hi h=>R.s1 (h ▸ hi),u,at_chg R.hd C R.n3,R.n1,R.n2,R.n3,R.s1,R.s2,by rw [C.floor]; exact R.fr,by rw [C.floor]; exact R.fq,by rw [C.floor]; exact R.fh,by rw [C.floor,s]; exact R.fs,R.su⟩
theorem Rm.set (R:Rm S M jr jq jh b r) {o:Nat} {v:Value} (ho:o<30) (h1:oneCell v=true) {h':Hd} (hs:h'.cs=r.2.2.cs.setIfInBounds o v):
    ∃ N,M.put (2*jh) o v=some N∧Chg (· = jh) M N∧N.nb.size=M.nb.size∧Rm S N jr jq jh b (r.1,r.2.1,h'):=by
  obtain ⟨N,p,C,s,u⟩:=put1 o v R.hd R.fh (by exact ho) h1
  exact ⟨N,p,C,s,R.rd.chg C (fun h=>R.n2 h.symm) fun i hi h=>R.s2 (h ▸ hi),at_chg R.cod C fun h=>R.n3 h.symm,by rw [u,hs],R.n1,R.n2,R.n3,R.s1,R.s2,by rw [C.floor]; exact R.fr,by rw [C.floor]; exact R.fq,by rw [C.floor]; exact R.fh,by rw [C.floor,s]; exact R.fs,R.su⟩
theorem c68 (R:Rm S M jr jq jh b r) {n:Int} (h0:0≤n) (h1:n≤8):Cn Try.prog 68 #[PtrB jr,.int .i64 n] M fun v N=>v=.int .i64 ((getR b r.1 r.2.1 n).2.2:Nat)∧Chg (fun i=>i=jr∨i=jq) M N∧N.nb.size=M.nb.size∧Rm S N jr jq jh b ((getR b r.1 r.2.1 n).1,(getR b r.1 r.2.1 n).2.1,r.2.2):=by
  refine w68_0 (ad rfl (on (int_of (i:=1) R.cod rfl) (cne (fun he=>?_) fun he=>?_)))
  · have e0:r.2.1≠0:=by omega
    have:getR b r.1 r.2.1 n=(r.1,r.2.1,0):=by unfold getR; rw [if_pos e0]
    rw [this]
    exact ⟨rfl,.refl _,rfl,R⟩
  · have e0:r.2.1=0:=by omega
    have hlt:=getR_lt (b:=b) (p:=r.1) (e:=r.2.1) h0 h1
    have eg:getR b r.1 r.2.1 n=((rFixed b r.1 n).2.2,(rFixed b r.1 n).2.1,(rFixed b r.1 n).1):=by unfold getR; rw [if_neg (by omega)]
    rw [eg] at hlt ⊢
    refine ad rfl (on (ptr_of R.cod rfl) (Cn.mono (c34 R.rd R.fq n) ?_))
    rintro _ N1 ⟨rfl,C1,z1,D1⟩
    have R1:Rm S N1 jr jq jh b ((rFixed b r.1 n).2.2,r.2.1,r.2.2):=⟨D1,at_chg R.cod C1 R.n1,at_chg R.hd C1 R.n2,R.n1,R.n2,R.n3,R.s1,R.s2,by rw [C1.floor]; exact R.fr,by rw [C1.floor]; exact R.fq,by rw [C1.floor]; exact R.fh,by rw [C1.floor,z1]; exact R.fs,R.su⟩
    obtain ⟨N2,p2,C2,z2,R2⟩:=R1.err (rFixed b r.1 n).2.1
    refine ty rfl (ty rfl (ty rfl (ad rfl (pt p2 ⟨?_,(C1.mono fun i _ h=>.inr h).trans (C2.mono fun i _ h=>.inl h),by rw [z2,z1],R2⟩))))
    rw [i64w (by simp only at hlt; omega)]
variable {Q:Mem→Prop}
theorem iK {P:Int→Mem→Prop} (E:Ch jr jq jh lo M0 M) (R:Rm S M jr jq jh b r) {n:Int} (h0:0≤n) (h1:n≤8) {o:Nat} (s:Int→Hd) (f:Int) (g:Int→Int) (hg:∀ x,0≤x→x<256→g x=x+f) (ho:o<30) (hs:∀ x,(s x).cs=r.2.2.cs.setIfInBounds o (.int .i64 x))
    (hP:∀ x N,ptS (N.put (2*jh) o (.int .i64 (g x))) Q→P x N) (K:∀ N r',r'=gI b r n f s→Ch jr jq jh lo M0 N→Rm S N jr jq jh b r'→Q N):Cn Try.prog 68 #[PtrB jr,.int .i64 n] M fun v N=>tyS (asI .i64 v) fun x=>P x N:=by
  refine Cn.mono (c68 R h0 h1) ?_
  have hlt:=getR_lt (b:=b) (p:=r.1) (e:=r.2.1) h0 h1
  rintro _ N1 ⟨rfl,C1,z1,R1⟩
  obtain ⟨N2,p2,C2,z2,R2⟩:=R1.set (o:=o) (v:=.int .i64 (((getR b r.1 r.2.1 n).2.2:Nat)+f)) ho rfl (hs _)
  refine ty rfl (hP _ _ (pt (by rw [hg _ (by omega) (by omega)]; exact p2) (K N2 _ rfl ((E.trans (C1.mono fun i _ h=>.inl (h.imp id .inl))).trans (C2.mono fun i _ h=>.inl (.inr (.inr h)))) R2)))
theorem bK {P:Int→Mem→Prop} (E:Ch jr jq jh lo M0 M) (R:Rm S M jr jq jh b r) {o:Nat} (s:Bool→Hd) (ho:o<30) (hs:∀ x,(s x).cs=r.2.2.cs.setIfInBounds o (.bool x))
    (hP:∀ x N,ptS (N.put (2*jh) o (.bool (x == 1))) Q→P x N) (K:∀ N r',r'=gB b r s→Ch jr jq jh lo M0 N→Rm S N jr jq jh b r'→Q N):Cn Try.prog 68 #[PtrB jr,.int .i64 1] M fun v N=>tyS (asI .i64 v) fun x=>P x N:=by
  refine Cn.mono (c68 R (by decide) (by decide)) ?_
  rintro _ N1 ⟨rfl,C1,z1,R1⟩
  obtain ⟨N2,p2,C2,z2,R2⟩:=R1.set (o:=o) (v:=.bool ((((getR b r.1 r.2.1 1).2.2:Nat):Int) == 1)) ho rfl (hs _)
  refine ty rfl (hP _ _ (pt p2 (K N2 _ ?_ ((E.trans (C1.mono fun i _ h=>.inl (h.imp id .inl))).trans (C2.mono fun i _ h=>.inl (.inr (.inr h)))) R2)))
  unfold gB
  congr 3
  rw [Bool.eq_iff_iff]
  simp only [beq_iff_eq]
  omega
theorem c69 (R:Rm S M jr jq jh b r):Cn Try.prog 69 #[PtrB jr] M fun v N=>v=.int .i64 (delR b r.1 r.2.1).2.2∧Chg (fun i=>i=jr∨i=jq) M N∧N.nb.size=M.nb.size∧Rm S N jr jq jh b ((delR b r.1 r.2.1).1,(delR b r.1 r.2.1).2.1,r.2.2):=by
  refine w69_0 (Cn.mono (c68 R (by decide) (by decide)) ?_)
  rintro _ N1 ⟨rfl,C1,z1,R1⟩
  generalize hg:getR b r.1 r.2.1 1=g at R1 ⊢
  have ed:g.2.2=0∨g.2.1≠0→delR b r.1 r.2.1=(g.1,g.2.1,0):=fun h=>by unfold delR; simp only [hg]; rw [if_pos h]
  have e0:A69_1 (some ⟨2*jr,0,none⟩) true N1 (fun v N=>v=.int .i64 0∧Chg (fun i=>i=jr∨i=jq) M N∧N.nb.size=M.nb.size∧Rm S N jr jq jh b (g.1,g.2.1,r.2.2)):=w69_1 (cT rfl ⟨rfl,C1,z1,R1⟩)
  refine ty rfl (cn (fun h=>?_) fun h=>ad rfl (on (int_of R1.cod rfl) ?_))
  · rw [ed (.inl (by simpa using h))]; exact e0
  · by_cases he:g.2.1=0
    · have hb:((((g.2.1:Nat):Int) != 0)=false):=by rw [he]; rfl
      have ed2:delR b r.1 r.2.1=((rSigned b g.1 5).2.2,if (rSigned b g.1 5).2.1=0∧(rSigned b g.1 5).1=0 then 4 else (rSigned b g.1 5).2.1,(rSigned b g.1 5).1):=by
        unfold delR; simp only [hg]
        rw [if_neg]
        rintro (h2 | h2)
        · rw [h2] at h; cases h
        · exact h2 he
      show A69_1 _ (((g.2.1:Nat):Int) != 0) N1 _
      rw [hb,ed2]
      refine w69_1 (cF rfl (ad rfl (on (ptr_of R1.cod rfl) (Cn.mono (c81 R1.rd R1.fq 5) ?_))))
      rintro _ N2 ⟨rfl,C2,z2,D2⟩
      have R2:Rm S N2 jr jq jh b ((rSigned b g.1 5).2.2,g.2.1,r.2.2):=⟨D2,at_chg R1.cod C2 R.n1,at_chg R1.hd C2 R.n2,R.n1,R.n2,R.n3,R.s1,R.s2,by rw [C2.floor]; exact R1.fr,by rw [C2.floor]; exact R1.fq,by rw [C2.floor]; exact R1.fh,by rw [C2.floor,z2]; exact R1.fs,R.su⟩
      obtain ⟨N3,p3,C3,z3,R3⟩:=R2.err (rSigned b g.1 5).2.1
      have C13:=(C1.trans (C2.mono fun i _ h=>.inr h)).trans (C3.mono fun i _ h=>.inl h)
      have z13:N3.nb.size=M.nb.size:=by rw [z3,z2,z1]
      have sb : -4294967296≤(rSigned b g.1 5).1∧(rSigned b g.1 5).1≤4294967296:=by
        have:=numb_lt (f:=bitOf b) (fun i=>Nat.mod_lt _ (by decide)) (g.1+1) 5
        unfold rSigned
        simp only [show (5:Int).toNat=5 from rfl]
        repeat' split
        all_goals (refine ⟨?_,?_⟩ <;> dsimp only <;> omega)
      refine ty rfl (ty rfl (ty rfl (ad rfl (pt p3 (cn (fun h1=>?_) fun h1=>?_)))))
      · have h1':(rSigned b g.1 5).2.1=0:=by simpa using h1
        refine w69_2 (cn (fun h2=>?_) fun h2=>?_)
        · have h2':(rSigned b g.1 5).1=0:=by simpa using h2
          obtain ⟨N4,p4,C4,z4,R4⟩:=R3.err 4
          refine ad rfl (pt p4 ⟨?_,C13.trans (C4.mono fun i _ h=>.inl h),by rw [z4,z13],?_⟩)
          · rw [i64w (x:=(rSigned b g.1 5).1) (by omega)]
          · rw [if_pos ⟨h1',h2'⟩]; exact R4
        · refine ⟨by rw [i64w (x:=(rSigned b g.1 5).1) (by omega)],C13,z13,?_⟩
          rw [if_neg (fun hh=>by rw [hh.2] at h2; cases h2)]; exact R3
      · refine w69_2 (cF rfl ⟨by rw [i64w (x:=(rSigned b g.1 5).1) (by omega)],C13,z13,?_⟩)
        rw [if_neg (fun hh=>by rw [hh.1] at h1; cases h1)]; exact R3
    · have hb:((((g.2.1:Nat):Int) != 0)=true):=by simpa using he
      show A69_1 _ (((g.2.1:Nat):Int) != 0) N1 _
      rw [hb,ed (.inr he)]; exact e0
theorem c70 (R:Rm S M jr jq jh b r) {s:Int} (hs:16≤s∧s≤256):Cn Try.prog 70 #[PtrB jr,.int .i64 s] M fun v N=>v=.int .i64 (logR b r.1 r.2.1 s).2.2∧Chg (fun i=>i=jr∨i=jq) M N∧N.nb.size=M.nb.size∧Rm S N jr jq jh b ((logR b r.1 r.2.1 s).1,(logR b r.1 r.2.1 s).2.1,r.2.2):=by
  refine w70_0 (Cn.mono (c68 R (by decide) (by decide)) ?_)
  have hl:(getR b r.1 r.2.1 2).2.2<4:=getR_pow (n:=2)
  rintro _ N1 ⟨rfl,C1,z1,R1⟩
  unfold logR
  generalize getR b r.1 r.2.1 2=g at R1 hl ⊢
  dsimp only at R1 hl ⊢
  have key:∀ t:Bool,(t=true↔(g.2.1=0∧logM g.2.2 s=false∨(2:Int)<g.2.2))→A70_1 (some ⟨2*jr,0,none⟩) ((g.2.2:Nat):Int) t N1 (fun v N=>v=.int .i64 (if g.2.1=0∧logM g.2.2 s=false∨(2:Int)<g.2.2 then ((g.1,5,((g.2.2:Nat):Int)):Nat × Nat × Int) else (g.1,g.2.1,g.2.2)).2.2∧Chg (fun i=>i=jr∨i=jq) M N∧N.nb.size=M.nb.size∧Rm S N jr jq jh b ((if g.2.1=0∧logM g.2.2 s=false∨(2:Int)<g.2.2 then ((g.1,5,((g.2.2:Nat):Int)):Nat × Nat × Int) else (g.1,g.2.1,g.2.2)).1,(if g.2.1=0∧logM g.2.2 s=false∨(2:Int)<g.2.2 then ((g.1,5,((g.2.2:Nat):Int)):Nat × Nat × Int) else (g.1,g.2.1,g.2.2)).2.1,r.2.2)):=by
    intro t ht
    cases t with
    | true=>
      obtain ⟨N2,p2,C2,z2,R2⟩:=R1.err 5
      rw [if_pos (ht.1 rfl)]
      exact w70_1 (cT rfl (ad rfl (pt p2 ⟨rfl,C1.trans (C2.mono fun i _ h=>.inl h),by rw [z2,z1],R2⟩)))
    | false=>
      rw [if_neg (fun h=>by have:=ht.2 h; cases this)]
      exact w70_1 (cF rfl ⟨rfl,C1,z1,R1⟩)
  have pw:(1:Int)*2 ^ g.2.2≤8:=by
    have:(2:Int) ^ g.2.2≤2 ^ 3:=by exact_mod_cast Nat.pow_le_pow_right (n:=2) (by decide) (show g.2.2≤3 by omega)
    omega
  have pw0:(0:Int)≤1*2 ^ g.2.2:=by have:(0:Int)≤2 ^ g.2.2:=Int.pow_nonneg (by decide); omega
  have lm:logM g.2.2 s=false↔(2<(g.2.2:Int)∨(1:Int)*2 ^ g.2.2 > (s+63) / 64):=by
    unfold logM
    rw [decide_eq_false_iff_not,Int.toNat_natCast,Int.one_mul]
    omega
  refine ty rfl (ad rfl (on (int_of R1.cod rfl) (cn (fun h=>?_) fun h=>?_)))
  · have h0:g.2.1=0:=by simpa using h
    refine pu (shl_i64 rfl (by omega) (by omega)) (ty rfl (Cn.eq (c59 hs) (ty rfl (cd (fun hgt=>key true ?_) fun hle=>key _ ?_))))
    · exact ⟨fun _=>.inl ⟨h0,lm.2 (.inr hgt)⟩,fun _=>rfl⟩
    · rw [decide_eq_true_iff]
      refine ⟨fun hh=>.inr hh,fun hh=>?_⟩
      rcases hh with ⟨_,hh⟩ | hh
      · rcases lm.1 hh with hh | hh
        · exact hh
        · exact absurd hh hle
      · exact hh
  · have h0:g.2.1≠0:=fun hh=>by rw [hh] at h; cases h
    refine key _ ?_
    rw [decide_eq_true_iff]
    exact ⟨fun hh=>.inr hh,fun hh=>hh.elim (fun q=>absurd q.1 h0) id⟩
def gD (b:List Nat) (r:RS) (s:Int→Hd):RS:=((delR b r.1 r.2.1).1,(delR b r.1 r.2.1).2.1,s (delR b r.1 r.2.1).2.2)
def gL (b:List Nat) (r:RS) (s:Int→Hd) (z:Int):RS:=((logR b r.1 r.2.1 z).1,(logR b r.1 r.2.1 z).2.1,s (logR b r.1 r.2.1 z).2.2)
theorem dK' {P:Int→Mem→Prop} (E:Ch jr jq jh lo M0 M) (R:Rm S M jr jq jh b r) {o:Nat} (s:Int→Hd) (ho:o<30) (hs:∀ x,(s x).cs=r.2.2.cs.setIfInBounds o (.int .i64 x))
    (hP:∀ x N,ptS (N.put (2*jh) o (.int .i64 x)) Q→P x N) (K:∀ N r',r'=gD b r s→Ch jr jq jh lo M0 N→Rm S N jr jq jh b r'→Q N):Cn Try.prog 69 #[PtrB jr] M fun v N=>tyS (asI .i64 v) fun x=>P x N:=by
  refine Cn.mono (c69 R) ?_
  rintro _ N1 ⟨rfl,C1,z1,R1⟩
  obtain ⟨N2,p2,C2,z2,R2⟩:=R1.set (o:=o) (v:=.int .i64 (delR b r.1 r.2.1).2.2) ho rfl (hs _)
  exact ty rfl (hP _ _ (pt p2 (K N2 _ rfl ((E.trans (C1.mono fun i _ h=>.inl (h.imp id .inl))).trans (C2.mono fun i _ h=>.inl (.inr (.inr h)))) R2)))
theorem lK {P:Int→Mem→Prop} (E:Ch jr jq jh lo M0 M) (R:Rm S M jr jq jh b r) {z:Int} (hz:16≤z∧z≤256) {o:Nat} (s:Int→Hd) (ho:o<30) (hs:∀ x,(s x).cs=r.2.2.cs.setIfInBounds o (.int .i64 x))
    (hP:∀ x N,ptS (N.put (2*jh) o (.int .i64 x)) Q→P x N) (K:∀ N r',r'=gL b r s z→Ch jr jq jh lo M0 N→Rm S N jr jq jh b r'→Q N):Cn Try.prog 70 #[PtrB jr,.int .i64 z] M fun v N=>tyS (asI .i64 v) fun x=>P x N:=by
  refine Cn.mono (c70 R hz) ?_
  rintro _ N1 ⟨rfl,C1,z1,R1⟩
  obtain ⟨N2,p2,C2,z2,R2⟩:=R1.set (o:=o) (v:=.int .i64 (logR b r.1 r.2.1 z).2.2) ho rfl (hs _)
  exact ty rfl (hP _ _ (pt p2 (K N2 _ rfl ((E.trans (C1.mono fun i _ h=>.inl (h.imp id .inl))).trans (C2.mono fun i _ h=>.inl (.inr (.inr h)))) R2)))
end
end Go.Zt
