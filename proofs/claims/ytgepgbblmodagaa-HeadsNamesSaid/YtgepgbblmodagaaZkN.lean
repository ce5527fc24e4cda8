/- Layer 20: reading a sequence header: c13 (and c12). -/
import Derived.Test.YtgepgbblmodagaaZkI
import Derived.Test.YtgepgbblmodagaaProg
import Derived.Test.YtgepgbblmodagaaZkA
import Derived.Test.YtgepgbblmodagaaZqT
set_option linter.unusedSimpArgs false
set_option linter.unusedVariables false
namespace Go.Zt
open Go Go.Sim Go.Proofs Go.RowKit
def rdS (b:List Nat):Nat × Nat × Nat:=
  if b.length<2 then (0,0,3)
  else if 16+2*((b.getD 0 0*256+b.getD 1 0) / 512) > 256∨16+2*((b.getD 0 0*256+b.getD 1 0) / 4 % 128) > 256 then (0,0,5)
  else if (b.getD 0 0*256+b.getD 1 0) % 4≠0∨b.length > 2 then (0,0,4)
  else (16+2*((b.getD 0 0*256+b.getD 1 0) / 512),16+2*((b.getD 0 0*256+b.getD 1 0) / 4 % 128),0)
def RqR (M:Mem) (r:Nat × Nat × Nat):Value→Mem→Prop:=fun v N=>v=.tuple #[.agg #[.int .i64 (r.1:Nat),.int .i64 (r.2.1:Nat)],.int .i64 (r.2.2:Nat)]∧Keep M N
theorem fin2 {M0 M:Mem} {j:Nat} {a b:Value} {e:TypeId} (K:Keep M0 M) (h:M.nb[j]?=some (.cells #[a,b] e)) (hj:M0.nb.size≤j) (hf:M.floor≤j) (x y:Int):
    ∃ M1,M.put (2*j) 0 (.int .i64 x)=some M1∧∃ M2,M1.put (2*j) 1 (.int .i64 y)=some M2∧M2.intAt .i64 (2*j) 0=some x∧M2.intAt .i64 (2*j) 1=some y∧Keep M0 M2:=by
  obtain ⟨M1,p1,M2,p2,C,u⟩:=set2s h hf x y
  exact ⟨M1,p1,M2,p2,int_of (i:=0) u rfl,int_of (i:=1) u rfl,Keep.step K C fun i hi=>by omega⟩
theorem e13_2 {M0 M:Mem} {j i:Nat} {W H:Nat} (K:Keep M0 M) (hj:M.nb[j]?=some (.cells #[.int .i64 0,.int .i64 0] 23)) (hi:M.nb[i]?=some (.cells #[.int .i64 (W:Int),.int .i64 (H:Int)] 23)) (h0:M0.nb.size≤j) (hf:M.floor≤j) (b:Bool):
    A13_2 (some ⟨2*j,0,none⟩) (some ⟨2*i,0,none⟩) b M (RqR M0 (if b then (0,0,4) else (W,H,0))):=by
  refine w13_2 ⟨fun hb=>?_,fun hb=>?_⟩
  · obtain ⟨M1,p1,M2,p2,i1,i2,K2⟩:=fin2 K hj h0 hf 0 0
    subst hb
    exact ⟨_,rfl,M1,p1,M2,p2,_,rfl,0,i1,0,i2,rfl,K2⟩
  · obtain ⟨M1,p1,M2,p2,i1,i2,K2⟩:=fin2 K hj h0 hf (W:Int) (H:Int)
    subst hb
    exact ⟨_,rfl,_,int_of (i:=0) hi rfl,_,int_of (i:=0+1) hi rfl,_,rfl,M1,p1,M2,p2,_,rfl,_,i1,_,i2,rfl,K2⟩
theorem e13_1 {M0 M:Mem} {j i:Nat} {W H:Nat} {A:Option Addr} {l c n:Nat} (K:Keep M0 M) (hj:M.nb[j]?=some (.cells #[.int .i64 0,.int .i64 0] 23)) (hi:M.nb[i]?=some (.cells #[.int .i64 (W:Int),.int .i64 (H:Int)] 23)) (h0:M0.nb.size≤j) (hf:M.floor≤j) {x:Int} (hx:x=(n:Int)) (b:Bool):
    A13_1 A l c (some ⟨2*j,0,none⟩) x (some ⟨2*i,0,none⟩) b M (RqR M0 (if b then (0,0,5) else if n % 4≠0∨l > 2 then (0,0,4) else (W,H,0))):=by
  subst hx
  have tm:((n:Nat):Int).tmod 4=((n % 4:Nat):Int):=by rw [Int.tmod_eq_emod_of_nonneg (by omega)]; omega
  refine w13_1 ⟨fun hb=>?_,fun hb=>⟨fun h4=>?_,fun h4=>?_⟩⟩
  · obtain ⟨M1,p1,M2,p2,i1,i2,K2⟩:=fin2 K hj h0 hf 0 0
    subst hb
    exact ⟨_,rfl,M1,p1,M2,p2,_,rfl,0,i1,0,i2,rfl,K2⟩
  · subst hb
    rw [tm] at h4
    have e:(if false=true then ((0,0,5):Nat × Nat × Nat) else if n % 4≠0∨l > 2 then (0,0,4) else (W,H,0))=(0,0,4):=by rw [if_neg (by decide),if_pos (.inl (by omega))]
    rw [e]; exact e13_2 K hj hi h0 hf true
  · subst hb
    rw [tm] at h4
    have e:(if false=true then ((0,0,5):Nat × Nat × Nat) else if n % 4≠0∨l > 2 then (0,0,4) else (W,H,0))=(if decide ((l:Int) > 2)=true then (0,0,4) else (W,H,0)):=by
      rw [if_neg (by decide)]
      by_cases hl:l > 2
      · rw [if_pos (.inr hl),if_pos (by rw [decide_eq_true_eq]; omega)]
      · rw [if_neg (by omega),if_neg (by rw [decide_eq_true_eq]; omega)]
    rw [e]; exact e13_2 K hj hi h0 hf _
theorem put1 {M:Mem} {j:Nat} {cs:Array Value} {e:TypeId} (i:Nat) (v:Value) (h:M.nb[j]?=some (.cells cs e)) (hf:M.floor≤j) (hi:i<cs.size) (hv:oneCell v=true):
    ∃ M1,M.put (2*j) i v=some M1∧Chg (· = j) M M1∧M1.nb.size=M.nb.size∧M1.nb[j]?=some (.cells (cs.setIfInBounds i v) e):=
  ⟨_,put_of h hf hi hv,upd_chg rfl,upd_size _,upd_at (lt_of_at h)⟩
def seqW (b:List Nat):Nat:=b.getD 0 0*256+b.getD 1 0
theorem seqb {b:List Nat} (hB:Byt b) (i:Nat):b.getD i 0<256:=by
  by_cases h:i<b.length
  · have:=hB b[i] (List.getElem_mem _); simpa [List.getD_eq_getElem?_getD,h] using this
  · simp [List.getD_eq_getElem?_getD,h]
theorem c13 {M:Mem} {A:Option Addr} {l c:Nat} {b:List Nat} (hf:M.floor≤M.nb.size) (hR:Row M A (U8 b)) (hl:l=b.length) (hB:Byt b):Cn Try.prog 13 #[.slice A l c] M (RqR M (rdS b)):=by
  have a:=Mem.new_at M (.cells #[.int .i64 0,.int .i64 0] 23)
  have K:Keep M (M.new (.cells #[.int .i64 0,.int .i64 0] 23)):=.new _ _
  have sz:=Mem.new_size M (.cells #[.int .i64 0,.int .i64 0] 23)
  refine w13_0 ?_
  generalize M.new (.cells #[.int .i64 0,.int .i64 0] 23)=N at a K sz ⊢
  have fN:N.floor≤M.nb.size:=by rw [K.floor]; exact hf
  refine ⟨fun h=>?_,fun h=>?_⟩
  · obtain ⟨M1,p1,M2,p2,i1,i2,K2⟩:=fin2 K a (Nat.le_refl _) fN 0 0
    have e:rdS b=(0,0,3):=by unfold rdS; rw [if_pos (by omega)]
    rw [e]
    exact ⟨M1,p1,M2,p2,0,i1,0,i2,rfl,K2⟩
  · have l2:¬ b.length<2:=by omega
    have R:=hR.keep K
    have b0:=seqb hB 0
    have b1:=seqb hB 1
    obtain ⟨a0,e0,r0⟩:=R.int1 (n:=l) (i:=0) (z:=0) (k:=.u8) (x:=(b.getD 0 0:Nat)) rfl (by omega) (by simp [U8,List.getD_eq_getElem?_getD,show 0<b.length by omega])
    obtain ⟨a1,e1,r1⟩:=R.int1 (n:=l) (i:=1) (z:=1) (k:=.u8) (x:=(b.getD 1 0:Nat)) rfl (by omega) (by simp [U8,List.getD_eq_getElem?_getD,show 1<b.length by omega])
    refine ⟨_,e0,_,r0,_,e1,_,r1,?_⟩
    have e:rdS b=if decide (16+2*(seqW b / 512) > 256∨16+2*(seqW b / 4 % 128) > 256)=true then (0,0,5) else if seqW b % 4≠0∨l > 2 then (0,0,4) else (16+2*(seqW b / 512),16+2*(seqW b / 4 % 128),0):=by
      unfold rdS; rw [if_neg l2,hl]; simp only [decide_eq_true_eq]; rfl
    rw [e]
    have hn:seqW b=b.getD 0 0*256+b.getD 1 0:=rfl
    have nb:seqW b<65536:=by rw [hn]; omega
    have g0:IntKind.i64.wrap ((IntKind.i64.wrap ((IntKind.i64.wrap ((b.getD 0 0:Nat):Int))*256))+(IntKind.i64.wrap ((b.getD 1 0:Nat):Int)))=((seqW b:Nat):Int):=by
      rw [i64w (x:=((b.getD 0 0:Nat):Int)) (by omega),i64w (x:=((b.getD 1 0:Nat):Int)) (by omega),i64w (x:=((b.getD 0 0:Nat):Int)*256) (by omega),i64w (by omega),hn]; omega
    rw [g0]
    generalize seqW b=n at *
    have t1:((n:Nat):Int).tdiv 512=((n / 512:Nat):Int):=tdivN n 512
    have t2:((n:Nat):Int).tdiv 4=((n / 4:Nat):Int):=tdivN n 4
    have t3:((n / 4:Nat):Int).tmod 128=((n / 4 % 128:Nat):Int):=tmodN (n / 4) 128
    have g1:IntKind.i64.wrap (16+(IntKind.i64.wrap (2*(IntKind.i64.wrap (((n:Nat):Int).tdiv 512)))))=((16+2*(n / 512):Nat):Int):=by
      rw [t1,i64w (x:=((n / 512:Nat):Int)) (by omega),i64w (x:=2*((n / 512:Nat):Int)) (by omega),i64w (by omega)]; omega
    have g2:IntKind.i64.wrap (16+(IntKind.i64.wrap (2*((IntKind.i64.wrap (((n:Nat):Int).tdiv 4)).tmod 128))))=((16+2*(n / 4 % 128):Nat):Int):=by
      rw [t2,i64w (x:=((n / 4:Nat):Int)) (by omega),t3,i64w (x:=2*((n / 4 % 128:Nat):Int)) (by omega),i64w (by omega)]; omega
    rw [g1,g2]
    have a2:=Mem.new_at N (.cells #[.int .i64 0,.int .i64 0] 23)
    have K2:Keep N (N.new (.cells #[.int .i64 0,.int .i64 0] 23)):=.new _ _
    generalize N.new (.cells #[.int .i64 0,.int .i64 0] 23)=N2 at a2 K2 ⊢
    obtain ⟨M1,p1,M2,p2,C,u⟩:=set2s a2 (by rw [K2.floor]; omega) ((16+2*(n / 512):Nat):Int) ((16+2*(n / 4 % 128):Nat):Int)
    have KK:Keep M M2:=Keep.step (K.trans K2) C fun i hi=>by omega
    have aj:=at_chg (at_keep a K2) C (by omega)
    have fj:M2.floor≤M.nb.size:=by rw [KK.floor]; exact hf
    refine ⟨M1,p1,M2,p2,_,int_of (i:=0) u rfl,fun h5=>?_,fun h5=>⟨_,int_of (i:=0+1) u rfl,?_⟩⟩
    · have:=e13_1 (A:=A) (l:=l) (c:=c) (n:=n) KK aj u (Nat.le_refl _) fj rfl true
      rw [decide_eq_true (by omega)]; exact this
    · have:=e13_1 (A:=A) (l:=l) (c:=c) (n:=n) KK aj u (Nat.le_refl _) fj rfl (decide (((16+2*(n / 4 % 128):Nat):Int) > 256))
      have ed:decide (16+2*(n / 512) > 256∨16+2*(n / 4 % 128) > 256)=decide (((16+2*(n / 4 % 128):Nat):Int) > 256):=by rw [decide_eq_decide]; omega
      rw [ed]; exact this
theorem bits7 {b:List Nat} (hB:Byt b):numb (bitOf b) 0 7=seqW b / 512∧numb (bitOf b) 7 7=seqW b / 4 % 128∧numb (bitOf b) 14 2=seqW b % 4:=by
  have b0:=seqb hB 0
  have b1:=seqb hB 1
  unfold seqW
  simp only [numb,bitOf,Nat.reduceAdd,Nat.reduceDiv,Nat.reduceMod,Nat.reduceSub,Nat.reducePow]
  refine ⟨?_,?_,?_⟩ <;> omega
theorem e12_3 {M0 M:Mem} {j i:Nat} {W H:Nat} (K:Keep M0 M) (hj:M.nb[j]?=some (.cells #[.int .i64 0,.int .i64 0] 23)) (hi:M.nb[i]?=some (.cells #[.int .i64 (W:Int),.int .i64 (H:Int)] 23)) (h0:M0.nb.size≤j) (hf:M.floor≤j) (b:Bool):
    A12_3 (some ⟨2*j,0,none⟩) (some ⟨2*i,0,none⟩) b M (RqR M0 (if b then (0,0,4) else (W,H,0))):=by
  refine w12_3 ⟨fun hb=>?_,fun hb=>?_⟩
  · obtain ⟨M1,p1,M2,p2,i1,i2,K2⟩:=fin2 K hj h0 hf 0 0
    subst hb
    exact ⟨_,rfl,M1,p1,M2,p2,_,rfl,0,i1,0,i2,rfl,K2⟩
  · obtain ⟨M1,p1,M2,p2,i1,i2,K2⟩:=fin2 K hj h0 hf (W:Int) (H:Int)
    subst hb
    exact ⟨_,rfl,_,int_of (i:=0) hi rfl,_,int_of (i:=0+1) hi rfl,_,rfl,M1,p1,M2,p2,_,rfl,_,i1,_,i2,rfl,K2⟩
theorem e12_2 {S:Nat→Prop} {M0 M:Mem} {j i r:Nat} {W H:Nat} {b:List Nat} (K:Keep M0 M) (hj:M.nb[j]?=some (.cells #[.int .i64 0,.int .i64 0] 23)) (hi:M.nb[i]?=some (.cells #[.int .i64 (W:Int),.int .i64 (H:Int)] 23)) (h0:M0.nb.size≤j) (hf:M.floor≤j)
    (hr:Rdr S M r b 14) (hr0:M0.nb.size≤r) (hrf:M.floor≤r) (hjr:j≠r) (hir:i≠r) (hB:Byt b) (h2:2≤b.length) (g:Bool):
    A12_2 (some ⟨2*j,0,none⟩) (some ⟨2*r,0,none⟩) (some ⟨2*i,0,none⟩) g M (RqR M0 (if g then (0,0,5) else if seqW b % 4≠0∨b.length > 2 then (0,0,4) else (W,H,0))):=by
  refine w12_2 ⟨fun hb=>?_,fun hb=>?_⟩
  · obtain ⟨M1,p1,M2,p2,i1,i2,K2⟩:=fin2 K hj h0 hf 0 0
    subst hb
    exact ⟨_,rfl,M1,p1,M2,p2,_,rfl,0,i1,0,i2,rfl,K2⟩
  · subst hb
    rw [if_neg (by decide)]
    have hl:=hr.len
    refine Cn.mono (c40 hr hrf) ?_
    rintro _ N ⟨rfl,C,sz,hr2⟩
    have e:rAlign b 14=if seqW b % 4≠0 then (4,14) else (0,16):=by
      unfold rAlign
      simp only [Nat.reduceMod,Nat.reduceSub,(bits7 hB).2.2,Nat.reduceAdd]
    rw [e] at hr2 ⊢
    have KK:=Keep.step K C fun i hi=>by omega
    have hj2:=at_chg hj C hjr
    have hi2:=at_chg hi C hir
    have f2:N.floor≤j:=by rw [C.floor]; exact hf
    refine ⟨_,rfl,fun h=>?_,fun h=>?_⟩
    · by_cases h4:seqW b % 4≠0
      · rw [if_pos (.inl h4)]; exact e12_3 KK hj2 hi2 h0 f2 true
      · rw [if_neg h4] at h; exact absurd rfl h
    · by_cases h4:seqW b % 4≠0
      · rw [if_pos h4] at h; cases h
      · rw [if_neg h4] at hr2
        refine Cn.eq (c37 hr2) ⟨_,rfl,?_⟩
        have e2:(if seqW b % 4≠0∨b.length > 2 then ((0,0,4):Nat × Nat × Nat) else (W,H,0))=if decide (((8*b.length - 16:Nat):Int) > 0)=true then (0,0,4) else (W,H,0):=by
          by_cases hl2:b.length > 2
          · rw [if_pos (.inr hl2),if_pos (by rw [decide_eq_true_eq]; omega)]
          · rw [if_neg (by omega),if_neg (by rw [decide_eq_true_eq]; omega)]
        rw [e2]
        exact e12_3 KK hj2 hi2 h0 f2 _
theorem c12 {M:Mem} {A:Option Addr} {l c:Nat} {b:List Nat} (hf:M.floor≤M.nb.size) (hR:Row M A (U8 b)) (hl:l=b.length) (hB:Byt b) (hb:b.length≤4294967296):Cn Try.prog 12 #[.slice A l c] M (RqR M (rdS b)):=by
  have a:=Mem.new_at M (.cells #[.int .i64 0,.int .i64 0] 23)
  have K:Keep M (M.new (.cells #[.int .i64 0,.int .i64 0] 23)):=.new _ _
  have sz:=Mem.new_size M (.cells #[.int .i64 0,.int .i64 0] 23)
  refine w12_0 ?_
  generalize M.new (.cells #[.int .i64 0,.int .i64 0] 23)=N at a K sz ⊢
  have fN:N.floor≤M.nb.size:=by rw [K.floor]; exact hf
  refine Cn.mono (c31 (by omega) (hR.keep K) hl.symm (by omega) hB) ?_
  rintro _ N1 ⟨r,rfl,K1,hr0,hr1,hr⟩
  have a1:=at_keep a K1
  have ns:=Mem.new_at N1 (.cells #[.int .i64 0,.int .i64 0] 78)
  have K2:Keep N1 (N1.new (.cells #[.int .i64 0,.int .i64 0] 78)):=.new _ _
  have sz1:=K1.size
  refine ⟨_,rfl,?_⟩
  generalize N1.new (.cells #[.int .i64 0,.int .i64 0] 78)=N2 at ns K2 ⊢
  have a2:=at_keep a1 K2
  have hr2:=hr.keep K2
  have KK:=(K.trans K1).trans K2
  have f2:N2.floor≤M.nb.size:=by rw [KK.floor]; exact hf
  refine Cn.eq (c37 hr2) ⟨_,rfl,fun h=>?_,fun h=>?_⟩
  · obtain ⟨M1,p1,M2,p2,i1,i2,K2⟩:=fin2 KK a2 (Nat.le_refl _) f2 0 0
    have e:rdS b=(0,0,3):=by unfold rdS; rw [if_pos (by omega)]
    rw [e]
    exact ⟨M1,p1,M2,p2,0,i1,0,i2,rfl,K2⟩
  · have l2:2≤b.length:=by omega
    obtain ⟨q1,q2,q3⟩:=bits7 hB
    have b0:=seqb hB 0
    have b1:=seqb hB 1
    have nW:seqW b<65536:=by unfold seqW; omega
    have f1:rFixed b 0 7=(seqW b / 512,0,7):=by
      unfold rFixed; rw [if_neg (by omega),if_neg (by omega),← q1]; rfl
    have f7:rFixed b 7 7=(seqW b / 4 % 128,0,14):=by
      unfold rFixed; rw [if_neg (by omega),if_neg (by omega),← q2]; rfl
    have wr:∀ x:Nat,x<128→IntKind.i64.wrap (16+(IntKind.i64.wrap (2*(IntKind.i64.wrap ((x:Nat):Int)))))=((16+2*x:Nat):Int):=fun x hx=>by
      rw [i64w (x:=((x:Nat):Int)) (by omega),i64w (x:=2*((x:Nat):Int)) (by omega),i64w (by omega)]; omega
    refine w12_1 ⟨fun _=>Cn.mono (c33 hr2 (by omega) 7) ?_,fun h=>absurd (by decide) h⟩
    rw [f1]
    rintro _ N3 ⟨rfl,C3,s3,hr3⟩
    have ns3:=at_chg ns C3 (by omega)
    have a3:=at_chg a2 C3 (by omega)
    have K3:=Keep.step KK C3 fun i hi=>by omega
    obtain ⟨N4,p4,C4,s4,ns4⟩:=put1 0 (.int .i64 ((16+2*(seqW b / 512):Nat):Int)) ns3 (by rw [K3.floor]; omega) (by decide) rfl
    have a4:=at_chg a3 C4 (by omega)
    have K4:=Keep.step K3 C4 fun i hi=>by omega
    have hr4:=hr3.chg C4 (by omega) fun i hi=>by omega
    refine ⟨_,rfl,_,rfl,_,rfl,fun h=>absurd rfl h,fun _=>⟨⟨2*N1.nb.size,0,none⟩,by kernel_rfl,N4,by rw [wr _ (by omega)]; exact p4,?_⟩⟩
    refine w12_1 ⟨fun _=>Cn.mono (c33 hr4 (by rw [K4.floor]; omega) 7) ?_,fun h=>absurd (by decide) h⟩
    rw [f7]
    rintro _ N5 ⟨rfl,C5,s5,hr5⟩
    have ns5:=at_chg ns4 C5 (by omega)
    have a5:=at_chg a4 C5 (by omega)
    have K5:=Keep.step K4 C5 fun i hi=>by omega
    obtain ⟨N6,p6,C6,s6,ns6⟩:=put1 1 (.int .i64 ((16+2*(seqW b / 4 % 128):Nat):Int)) ns5 (by rw [K5.floor]; omega) (by simp) rfl
    have a6:=at_chg a5 C6 (by omega)
    have K6:=Keep.step K5 C6 fun i hi=>by omega
    have hr6:=hr5.chg C6 (by omega) fun i hi=>by omega
    refine ⟨_,rfl,_,rfl,_,rfl,fun h=>absurd rfl h,fun _=>⟨⟨2*N1.nb.size,1,none⟩,by kernel_rfl,N6,by rw [wr _ (by omega)]; exact p6,?_⟩⟩
    refine w12_1 ⟨fun h=>absurd h (by decide),fun _=>⟨⟨2*N1.nb.size,0,none⟩,by kernel_rfl,_,int_of (i:=0) ns6 rfl,⟨2*N1.nb.size,1,none⟩,by kernel_rfl,_,int_of (i:=1) ns6 rfl,?_⟩⟩
    have a7:=Mem.new_at N6 (.cells #[.int .i64 0,.int .i64 0] 23)
    have K7:Keep N6 (N6.new (.cells #[.int .i64 0,.int .i64 0] 23)):=.new _ _
    generalize N6.new (.cells #[.int .i64 0,.int .i64 0] 23)=N7 at a7 K7 ⊢
    have s26:=K2.size
    have s45:=C4.size
    have s67:=C6.size
    have s35:=C3.size
    have s55:=C5.size
    have fl:N7.floor≤M.nb.size:=by rw [K7.floor,K6.floor]; exact hf
    obtain ⟨M1,p1,M2,p2,C,u⟩:=set2s a7 (by omega) ((16+2*(seqW b / 512):Nat):Int) ((16+2*(seqW b / 4 % 128):Nat):Int)
    have KK7:Keep M M2:=Keep.step (K6.trans K7) C fun i hi=>by omega
    have aj:=at_chg (at_keep a6 K7) C (by omega)
    have hr7:=(hr6.keep K7).chg C (by omega) fun i hi=>by omega
    have fj:M2.floor≤M.nb.size:=by rw [KK7.floor]; exact hf
    have e:rdS b=if decide (16+2*(seqW b / 512) > 256∨16+2*(seqW b / 4 % 128) > 256)=true then (0,0,5) else if seqW b % 4≠0∨b.length > 2 then (0,0,4) else (16+2*(seqW b / 512),16+2*(seqW b / 4 % 128),0):=by
      unfold rdS; rw [if_neg (by omega)]; simp only [decide_eq_true_eq]; rfl
    rw [e]
    refine ⟨M1,p1,M2,p2,_,int_of (i:=0) u rfl,fun h5=>?_,fun h5=>⟨_,int_of (i:=0+1) u rfl,?_⟩⟩
    · have:=e12_2 KK7 aj u (Nat.le_refl _) fj hr7 (by omega) (by omega) (by omega) (by omega) hB l2 true
      rw [decide_eq_true (by omega)]; exact this
    · have:=e12_2 KK7 aj u (Nat.le_refl _) fj hr7 (by omega) (by omega) (by omega) (by omega) hB l2 (decide (((16+2*(seqW b / 4 % 128):Nat):Int) > 256))
      have ed:decide (16+2*(seqW b / 512) > 256∨16+2*(seqW b / 4 % 128) > 256)=decide (((16+2*(seqW b / 4 % 128):Nat):Int) > 256):=by rw [decide_eq_decide]; omega
      rw [ed]; exact this
end Go.Zt

/- The functions' walks: for each function and each loop a rule of what it comes to. Printed by zw2.py. -/
set_option linter.unusedVariables false
set_option linter.unusedSimpArgs false
set_option maxRecDepth 100000
namespace Go.Zt
open Go Go.Sim Go.Proofs
def K3:List (List It × List Nat):=[([.rg [1,1,1,1,1,1,0] 11,.code [1,1,1,1,1,1,1]],[1,5,6,8,10,11,12,13,46]),([.rg [1,1,1,1,1,1,0] 16,.code [1,1,1,1,1,1,1]],[1,5,10,11,12,13,51]),([.rg [1,1,1,1,1,1,0] 21,.code [1,1,1,1,1,1,1]],[1,5,11,13,56]),([.rg [1,1,1,1,1,1,0] 26,.code [1,1,1,1,1,1,1]],[1,5,61]),([.rg [1,1,1,1,1,1,0] 31,.code [1,1,1,1,1,1,1]],[66])]
def Z3:List (List Nat × List Nat):=[([1,1,1,1,1,1,0],[11,16,21,26,31,34])]
theorem b3:Try.prog.funcs[3]?=some Try.f3∧(Orc.tab Try.prog).lookup 3=none∧Try.f3.body=some (codeOf Try.f3):=⟨by kernel_rfl,by kernel_rfl,by kernel_rfl⟩
def A3_1 (Ax1:Option Addr) (lx1 cx1:Nat) (Ax5:Option Addr) (lx5 cx5:Nat) (Ax6:Option Addr) (lx6 cx6:Nat) (Ax8:Option Addr) (lx8 cx8:Nat) (x10:Option Addr) (x11:Int) (x12:Option Addr) (x13:Int) (x46:Bool) (M:Mem) (Q:Value→Mem→Prop):Prop:=LvP Try.prog Try.f3 [(1,.slice Ax1 lx1 cx1),(5,.slice Ax5 lx5 cx5),(6,.slice Ax6 lx6 cx6),(8,.slice Ax8 lx8 cx8),(10,.pointer x10),(11,.int .i64 x11),(12,.pointer x12),(13,.int .i64 x13),(46,.bool x46)] [.rg [1,1,1,1,1,1,0] 11,.code [1,1,1,1,1,1,1]] M Q
def A3_2 (Ax1:Option Addr) (lx1 cx1:Nat) (Ax5:Option Addr) (lx5 cx5:Nat) (x10:Option Addr) (x11:Int) (x12:Option Addr) (x13:Int) (x51:Bool) (M:Mem) (Q:Value→Mem→Prop):Prop:=LvP Try.prog Try.f3 [(1,.slice Ax1 lx1 cx1),(5,.slice Ax5 lx5 cx5),(10,.pointer x10),(11,.int .i64 x11),(12,.pointer x12),(13,.int .i64 x13),(51,.bool x51)] [.rg [1,1,1,1,1,1,0] 16,.code [1,1,1,1,1,1,1]] M Q
def A3_3 (Ax1:Option Addr) (lx1 cx1:Nat) (Ax5:Option Addr) (lx5 cx5:Nat) (x11 x13:Int) (x56:Bool) (M:Mem) (Q:Value→Mem→Prop):Prop:=LvP Try.prog Try.f3 [(1,.slice Ax1 lx1 cx1),(5,.slice Ax5 lx5 cx5),(11,.int .i64 x11),(13,.int .i64 x13),(56,.bool x56)] [.rg [1,1,1,1,1,1,0] 21,.code [1,1,1,1,1,1,1]] M Q
def A3_4 (Ax1:Option Addr) (lx1 cx1:Nat) (Ax5:Option Addr) (lx5 cx5:Nat) (x61:Bool) (M:Mem) (Q:Value→Mem→Prop):Prop:=LvP Try.prog Try.f3 [(1,.slice Ax1 lx1 cx1),(5,.slice Ax5 lx5 cx5),(61,.bool x61)] [.rg [1,1,1,1,1,1,0] 26,.code [1,1,1,1,1,1,1]] M Q
def A3_5 (x66:Bool) (M:Mem) (Q:Value→Mem→Prop):Prop:=LvP Try.prog Try.f3 [(66,.bool x66)] [.rg [1,1,1,1,1,1,0] 31,.code [1,1,1,1,1,1,1]] M Q
theorem w3_0 {x0_0 x0_1:Int} {Ax1:Option Addr} {lx1 cx1:Nat} {M:Mem} {Q:Value→Mem→Prop} (H:
 Cn Try.prog 9 #[.slice Ax1 lx1 cx1] (M.new (.cells #[.int .i64 x0_0,.int .i64 x0_1] 23)) fun v1' N1'=>
 ∃ s2',asS v1'=some s2'∧
 ∃ x3',N1'.intAt .i64 (2*M.nb.size) 0=some x3'∧
 ∃ x4',N1'.intAt .i64 (2*M.nb.size) (0+1)=some x4'∧
 Cn Try.prog 10 #[.agg #[.int .i64 x3',.int .i64 x4']] N1' fun v5' N5'=>
 ∃ cs6',asU 2 v5'=some cs6'∧
 ∃ s7',asS (cs6'.getD 0 undef)=some s7'∧
 ∃ x8',asI .i64 (cs6'.getD 1 undef)=some x8'∧
 ∃ x9',N5'.intAt .i64 (2*M.nb.size) 0=some x9'∧
 ∃ x10',N5'.intAt .i64 (2*M.nb.size) (0+1)=some x10'∧
 Cn Try.prog 11 #[.agg #[.int .i64 x9',.int .i64 x10']] N5' fun v11' N11'=>
 ∃ cs12',asU 2 v11'=some cs12'∧
 ∃ s13',asS (cs12'.getD 0 undef)=some s13'∧
 ∃ x14',asI .i64 (cs12'.getD 1 undef)=some x14'∧
 Cn Try.prog 12 #[.slice s2'.1 s2'.2.1 s2'.2.2] N11' fun v15' N15'=>
 ∃ cs16',asU 2 v15'=some cs16'∧
 ∃ cs17',asA 2 (cs16'.getD 0 undef)=some cs17'∧
 ∃ x18',asI .i64 (cs17'.getD 0 undef)=some x18'∧
 ∃ x19',asI .i64 (cs17'.getD 1 undef)=some x19'∧
 ∃ x20',asI .i64 (cs16'.getD 1 undef)=some x20'∧
 ∃ M21',(N15'.new (.cells #[.int .i64 0,.int .i64 0] 23)).put (2*N15'.nb.size) 0 (.int .i64 x18')=some M21'∧
 ∃ M22',M21'.put (2*N15'.nb.size) 1 (.int .i64 x19')=some M22'∧
 Cn Try.prog 13 #[.slice Ax1 lx1 cx1] M22' fun v23' N23'=>
 ∃ cs24',asU 2 v23'=some cs24'∧
 ∃ cs25',asA 2 (cs24'.getD 0 undef)=some cs25'∧
 ∃ x26',asI .i64 (cs25'.getD 0 undef)=some x26'∧
 ∃ x27',asI .i64 (cs25'.getD 1 undef)=some x27'∧
 ∃ x28',asI .i64 (cs24'.getD 1 undef)=some x28'∧
 ∃ M29',(N23'.new (.cells #[.int .i64 0,.int .i64 0] 23)).put (2*N23'.nb.size) 0 (.int .i64 x26')=some M29'∧
 ∃ M30',M29'.put (2*N23'.nb.size) 1 (.int .i64 x27')=some M30'∧
 ∃ x31',M30'.intAt .i64 (2*M.nb.size) 0=some x31'∧
 ∃ x32',M30'.intAt .i64 (2*M.nb.size) (0+1)=some x32'∧
 ∃ x33',M30'.intAt .i64 (2*M.nb.size) 0=some x33'∧
 ∃ x34',M30'.intAt .i64 (2*M.nb.size) (0+1)=some x34'∧
 Cn Try.prog 14 #[.agg #[.int .i64 x31',.int .i64 x32']] { M30' with floor:=M30'.nb.size } fun v35' N35'=>
 ∃ x36',asI .i64 v35'=some x36'∧
 Cn Try.prog 15 #[.agg #[.int .i64 x33',.int .i64 x34']] { N35' with floor:=M30'.floor } fun v37' N37'=>
 ∃ x38',asI .i64 v37'=some x38'∧
 ((x36'=x38'→
 A3_1 Ax1 lx1 cx1 s2'.1 s2'.2.1 s2'.2.2 s7'.1 s7'.2.1 s7'.2.2 s13'.1 s13'.2.1 s13'.2.2 (some ⟨2*N15'.nb.size,0,none⟩) x20' (some ⟨2*N23'.nb.size,0,none⟩) x28' (x8' == x14') N37' Q)∧
 (x36'≠x38'→
 A3_1 Ax1 lx1 cx1 s2'.1 s2'.2.1 s2'.2.2 s7'.1 s7'.2.1 s7'.2.2 s13'.1 s13'.2.1 s13'.2.2 (some ⟨2*N15'.nb.size,0,none⟩) x20' (some ⟨2*N23'.nb.size,0,none⟩) x28' false N37' Q))):
 Cn Try.prog 3 #[.agg #[.int .i64 x0_0,.int .i64 x0_1],.slice Ax1 lx1 cx1] M Q:=by
 try simp only [o2,o3] at H
 try simp only [oA,oB,oP,oS,oI,oU,oi,ob,op,os,ox,ot,oq,om] at H
 try simp only [oa,cD,cE,cN] at H
 try simp only [cB] at H
 exact
 Cn.mk (cuts:=K3) (sp:=Z3) 900 b3 rfl rfl H fun G=>by kernel_rfl
theorem w3_1 {Ax1:Option Addr} {lx1 cx1:Nat} {Ax5:Option Addr} {lx5 cx5:Nat} {Ax6:Option Addr} {lx6 cx6:Nat} {Ax8:Option Addr} {lx8 cx8:Nat} {x10:Option Addr} {x11:Int} {x12:Option Addr} {x13:Int} {x46:Bool} {M:Mem} {Q:Value→Mem→Prop} (H:
 ((x46=true→
 Cn Try.prog 16 #[.slice Ax6 lx6 cx6,.slice Ax8 lx8 cx8] M fun v39' N39'=>
 ∃ b40',asB v39'=some b40'∧
 A3_2 Ax1 lx1 cx1 Ax5 lx5 cx5 x10 x11 x12 x13 b40' N39' Q)∧
 (x46=false→
 A3_2 Ax1 lx1 cx1 Ax5 lx5 cx5 x10 x11 x12 x13 false M Q))):
 A3_1 Ax1 lx1 cx1 Ax5 lx5 cx5 Ax6 lx6 cx6 Ax8 lx8 cx8 x10 x11 x12 x13 x46 M Q:=by
 try simp only [o2,o3] at H
 try simp only [oA,oB,oP,oS,oI,oU,oi,ob,op,os,ox,ot,oq,om] at H
 try simp only [oa,cD,cE,cN] at H
 try simp only [cB] at H
 exact
 LvP.mk (cuts:=K3) (sp:=Z3) 900 H fun G=>by kernel_rfl
theorem w3_2 {Ax1:Option Addr} {lx1 cx1:Nat} {Ax5:Option Addr} {lx5 cx5:Nat} {x10:Option Addr} {x11:Int} {x12:Option Addr} {x13:Int} {x51:Bool} {M:Mem} {Q:Value→Mem→Prop} (H:
 ((x51=true→
 ∃ a41',x10=some a41'∧
 ∃ x42',M.intAt .i64 a41'.block a41'.off=some x42'∧
 ∃ x43',M.intAt .i64 a41'.block (a41'.off+1)=some x43'∧
 ∃ a44',x12=some a44'∧
 ∃ x45',M.intAt .i64 a44'.block a44'.off=some x45'∧
 ∃ x46',M.intAt .i64 a44'.block (a44'.off+1)=some x46'∧
 ∃ v47',binV Try.prog .eql 23 23 (.agg #[.int .i64 x42',.int .i64 x43']) (.agg #[.int .i64 x45',.int .i64 x46'])=some v47'∧
 ∃ b48',asB v47'=some b48'∧
 A3_3 Ax1 lx1 cx1 Ax5 lx5 cx5 x11 x13 b48' M Q)∧
 (x51=false→
 A3_3 Ax1 lx1 cx1 Ax5 lx5 cx5 x11 x13 false M Q))):
 A3_2 Ax1 lx1 cx1 Ax5 lx5 cx5 x10 x11 x12 x13 x51 M Q:=by
 try simp only [o2,o3] at H
 try simp only [oA,oB,oP,oS,oI,oU,oi,ob,op,os,ox,ot,oq,om] at H
 try simp only [oa,cD,cE,cN] at H
 try simp only [cB] at H
 exact
 LvP.mk (cuts:=K3) (sp:=Z3) 900 H fun G=>by kernel_rfl
theorem w3_3 {Ax1:Option Addr} {lx1 cx1:Nat} {Ax5:Option Addr} {lx5 cx5:Nat} {x11 x13:Int} {x56:Bool} {M:Mem} {Q:Value→Mem→Prop} (H:
 ((x56=true→
 A3_4 Ax1 lx1 cx1 Ax5 lx5 cx5 (x11 == x13) M Q)∧
 (x56=false→
 A3_4 Ax1 lx1 cx1 Ax5 lx5 cx5 false M Q))):
 A3_3 Ax1 lx1 cx1 Ax5 lx5 cx5 x11 x13 x56 M Q:=by
 try simp only [o2,o3] at H
 try simp only [oA,oB,oP,oS,oI,oU,oi,ob,op,os,ox,ot,oq,om] at H
 try simp only [oa,cD,cE,cN] at H
 try simp only [cB] at H
 exact
 LvP.mk (cuts:=K3) (sp:=Z3) 900 H fun G=>by kernel_rfl
theorem w3_4 {Ax1:Option Addr} {lx1 cx1:Nat} {Ax5:Option Addr} {lx5 cx5:Nat} {x61:Bool} {M:Mem} {Q:Value→Mem→Prop} (H:
 ((x61=true→
 Cn Try.prog 16 #[.slice Ax5 lx5 cx5,.slice Ax1 lx1 cx1] M fun v49' N49'=>
 ∃ b50',asB v49'=some b50'∧
 A3_5 b50' N49' Q)∧
 (x61=false→
 A3_5 false M Q))):
 A3_4 Ax1 lx1 cx1 Ax5 lx5 cx5 x61 M Q:=by
 try simp only [o2,o3] at H
 try simp only [oA,oB,oP,oS,oI,oU,oi,ob,op,os,ox,ot,oq,om] at H
 try simp only [oa,cD,cE,cN] at H
 try simp only [cB] at H
 exact
 LvP.mk (cuts:=K3) (sp:=Z3) 900 H fun G=>by kernel_rfl
theorem w3_5 {x66:Bool} {M:Mem} {Q:Value→Mem→Prop} (H:
 ((x66=true→
 Cn Try.prog 17 #[] M fun v51' N51'=>
 ∃ b52',asB v51'=some b52'∧
 Q (.bool b52') N51')∧
 (x66=false→
 Q (.bool false) M))):
 A3_5 x66 M Q:=by
 try simp only [o2,o3] at H
 try simp only [oA,oB,oP,oS,oI,oU,oi,ob,op,os,ox,ot,oq,om] at H
 try simp only [oa,cD,cE,cN] at H
 try simp only [cB] at H
 exact
 LvP.mk (cuts:=K3) (sp:=Z3) 900 H fun G=>by kernel_rfl
end Go.Zt

/- Layer 20: HeadsSeqs: which sequence headers may be,their bytes,and what bytes say. -/
set_option linter.unusedSimpArgs false
set_option linter.unusedVariables false
set_option maxRecDepth 100000
namespace Go.Zt
open Go Go.Sim Go.Proofs Go.RowKit
theorem eq23 (a b c d:Int):∃ z:Bool,binV Try.prog .eql 23 23 (.agg #[.int .i64 a,.int .i64 b]) (.agg #[.int .i64 c,.int .i64 d])=some (.bool z)∧(z=true↔(a=c∧b=d)):=by
  obtain ⟨z,h1,_,h3⟩:=binV_eqA (P:=Try.prog) (k:=3) (t:=23) (tb:=23) (xs:=[.int .i64 a,.int .i64 b]) (ys:=[.int .i64 c,.int .i64 d]) (by decide) (by kernel_rfl) (by kernel_rfl) (by kernel_rfl) (by kernel_rfl) (by kernel_rfl) rfl rfl
  refine ⟨z,h1,h3.trans ⟨fun h=>?_,fun h=>by rw [h.1,h.2]⟩⟩
  simp at h; exact h
theorem newS {M0 M:Mem} (K:Keep M0 M) (x y:Int) (hf:M0.floor≤M0.nb.size):∃ M1,(M.new (.cells #[.int .i64 0,.int .i64 0] 23)).put (2*M.nb.size) 0 (.int .i64 x)=some M1∧∃ M2,M1.put (2*M.nb.size) 1 (.int .i64 y)=some M2∧Keep M M2∧M2.nb[M.nb.size]?=some (.cells #[.int .i64 x,.int .i64 y] 23):=by
  have a:=Mem.new_at M (.cells #[.int .i64 0,.int .i64 0] 23)
  have K1:Keep M (M.new (.cells #[.int .i64 0,.int .i64 0] 23)):=.new _ _
  obtain ⟨M1,p1,M2,p2,C,u⟩:=set2s a (by rw [K1.floor,K.floor]; exact Nat.le_trans hf K.size) x y
  exact ⟨M1,p1,M2,p2,Keep.step K1 C fun i hi=>by omega,u⟩
theorem c3 {M:Mem} {w h:Int} {A:Option Addr} {n c:Nat} {b:List Nat} (hf:M.floor≤M.nb.size) (hR:Row M A (U8 b)) (hn:n=b.length) (hb:b.length≤4294967296) (hB:Byt b):
    Cn Try.prog 3 #[.agg #[.int .i64 w,.int .i64 h],.slice A n c] M fun v N=>v=.bool true∧Keep M N:=by
  have a:=Mem.new_at M (.cells #[.int .i64 w,.int .i64 h] 23)
  have K:Keep M (M.new (.cells #[.int .i64 w,.int .i64 h] 23)):=.new _ _
  refine w3_0 ?_
  generalize M.new (.cells #[.int .i64 w,.int .i64 h] 23)=N at a K ⊢
  refine Cn.mono (c9 (fb hf K) (hR.keep K) hn (by omega)) ?_
  rintro _ N1 ⟨A1,c1,rfl,K1,O1,_⟩
  have a1:=at_keep a K1
  have T1:=K.trans K1
  refine ⟨_,rfl,_,int_of (i:=0) a1 rfl,_,int_of (i:=0+1) a1 rfl,Cn.mono (c10 (fb hf T1)) ?_⟩
  rintro _ N5 ⟨K5,A5,d5,rfl,R5⟩
  have a5:=at_keep a1 K5
  have T5:=T1.trans K5
  refine ⟨_,rfl,_,rfl,_,rfl,_,int_of (i:=0) a5 rfl,_,int_of (i:=0+1) a5 rfl,Cn.mono c11 ?_⟩
  rintro _ N11 ⟨K11,A11,d11,rfl,R11⟩
  have T11:=T5.trans K11
  have R1:=((O1.row.keep K5).keep K11)
  refine ⟨_,rfl,_,rfl,_,rfl,Cn.mono (c12 (fb hf T11) R1 hn hB hb) ?_⟩
  rintro _ N15 ⟨rfl,K15⟩
  have T15:=T11.trans K15
  obtain ⟨M21,p21,M22,p22,K22,u22⟩:=newS T15 ((rdS b).1:Int) ((rdS b).2.1:Int) hf
  have T22:=T15.trans K22
  refine ⟨_,rfl,_,rfl,_,rfl,_,rfl,_,rfl,M21,p21,M22,p22,Cn.mono (c13 (fb hf T22) (hR.keep T22) hn hB) ?_⟩
  rintro _ N23 ⟨rfl,K23⟩
  have T23:=T22.trans K23
  obtain ⟨M29,p29,M30,p30,K30,u30⟩:=newS T23 ((rdS b).1:Int) ((rdS b).2.1:Int) hf
  have T30:=T23.trans K30
  have K5to30:=(((K11.trans K15).trans K22).trans K23).trans K30
  have a30:=at_keep a5 K5to30
  refine ⟨_,rfl,_,rfl,_,rfl,_,rfl,_,rfl,M29,p29,M30,p30,_,int_of (i:=0) a30 rfl,_,int_of (i:=0+1) a30 rfl,_,int_of (i:=0) a30 rfl,_,int_of (i:=0+1) a30 rfl,Cn.mono (c14 (M:={ M30 with floor:=M30.nb.size })) ?_⟩
  rintro _ N35 ⟨rfl,K35⟩
  have K35':Keep M30 { N35 with floor:=M30.floor }:=K35.unfl
  refine ⟨_,rfl,?_⟩
  generalize { N35 with floor:=M30.floor }=N36 at K35' ⊢
  refine Cn.mono c15 ?_
  rintro _ N37 ⟨rfl,K37⟩
  have Kf:=(K30.trans K35').trans K37
  have Kg:=(K23.trans K30).trans (K35'.trans K37)
  have T37:=(T30.trans K35').trans K37
  have Kh:=((K15.trans K22).trans Kg)
  have KK5:=K11.trans Kh
  refine ⟨_,rfl,fun _=>?_,fun hne=>absurd rfl hne⟩
  rw [show (((chkS w h:Nat):Int) == ((chkS w h:Nat):Int))=true by simp]
  have v22:=at_keep (at_keep u22 K23) Kf
  have v30:=at_keep (at_keep u30 K35') K37
  obtain ⟨z,z1,z2⟩:=eq23 ((rdS b).1:Int) ((rdS b).2.1:Int) ((rdS b).1:Int) ((rdS b).2.1:Int)
  have hs:(sqb w h).length≤2:=by unfold sqb; split <;> simp
  refine w3_1 ⟨fun _=>Cn.eq (c16 (R5.keep KK5) (R11.keep Kh) rfl rfl (show (sqb w h).length≤4611686018427387904 by omega)) ⟨_,rfl,?_⟩,fun h=>(by cases h)⟩
  rw [decide_eq_true rfl]
  refine w3_2 ⟨fun _=>⟨_,rfl,_,int_of (i:=0) v22 rfl,_,int_of (i:=0+1) v22 rfl,_,rfl,_,int_of (i:=0) v30 rfl,_,int_of (i:=0+1) v30 rfl,_,z1,z,rfl,?_⟩,fun h=>(by cases h)⟩
  rw [z2.2 ⟨rfl,rfl⟩]
  refine w3_3 ⟨fun _=>?_,fun h=>(by cases h)⟩
  rw [show ((((rdS b).2.2:Nat):Int) == (((rdS b).2.2:Nat):Int))=true by simp]
  refine w3_4 ⟨fun _=>Cn.eq (c16 (R1.keep Kh) (hR.keep T37) hn hn (show n≤4611686018427387904 by omega)) ⟨_,rfl,?_⟩,fun h=>(by cases h)⟩
  rw [decide_eq_true rfl]
  exact w3_5 ⟨fun _=>Cn.known (by rfl) ⟨_,rfl,rfl,T37⟩,fun h=>(by cases h)⟩
end Go.Zt

/- The functions' walks: for each function and each loop a rule of what it comes to. Printed by zw2.py. -/
set_option linter.unusedVariables false
set_option maxRecDepth 100000
namespace Go.Zt
open Go Go.Sim Go.Proofs
def tyZlB0:List Sc:=[.bool,.int .i64,.bool,.bool,.int .i64,.int .i64,.int .i64,.int .i64,.int .i64,.int .i64,.int .i64,.int .i64,.int .i64,.int .i64,.int .i64,.int .i64,.int .i64,.bool,.int .i64,.int .i64,.int .i64,.int .i64,.int .i64,.bool,.int .i64,.int .i64,.sl,.bool,.bool,.bool]
def K26:List (List It × List Nat):=[([.code [1,1,1]],[2,5]),([.rg [1,1,0,1,1] 7,.code [1,1,1]],[2,3,31]),([.code [1,1,1,0,1,0,0],.lp [1,1,1,0,1,0,0],.blk 0,.code [1,1,1,1]],[2,5,81,82]),([.rg [1,1,0,1,1] 12,.code [1,1,1]],[2,3,36]),([.blk 1,.code [1,1,1,0,1,0,0,1,1,1],.lp [1,1,1,0,1,0,0],.blk 0,.code [1,1,1,1]],[2,5,81,82]),([.code [1,1,1,1,0,1,0,0],.lp [1,1,1,1,0,1,0,0],.blk 2,.code [1,1,1,1,1]],[5,92,93]),([.rg [1,1,0,1,1] 17,.code [1,1,1]],[2,3,41]),([.code [1,1,1,0,1,0,0,1,1,1],.lp [1,1,1,0,1,0,0],.blk 0,.code [1,1,1,1]],[2,5,81,82]),([.blk 3,.code [1,1,1,1,0,1,0,0,1,1,1],.lp [1,1,1,1,0,1,0,0],.blk 2,.code [1,1,1,1,1]],[5,92,93]),([.rg [1,1,0,1,1] 22,.code [1,1,1]],[2,3,46]),([.code [1,1,1,1,0,1,0,0,1,1,1],.lp [1,1,1,1,0,1,0,0],.blk 2,.code [1,1,1,1,1]],[5,92,93]),([.rg [1,1,0,1,1] 29,.code [1,1,1]],[2,3,53]),([.rg [1,1,0,1,1] 36,.code [1,1,1]],[2,60]),([.rg [1,1,0,1,1] 40,.code [1,1,1]],[2,64])]
def Z26:List (List Nat × List Nat):=[([1,1,0,1,1],[7,12,17,22,29,36,40,56])]
theorem b26:Try.prog.funcs[26]?=some Try.f26∧(Orc.tab Try.prog).lookup 26=none∧Try.f26.body=some (codeOf Try.f26):=⟨by kernel_rfl,by kernel_rfl,by kernel_rfl⟩
def A26_1 (x2:Option Addr) (x5:Bool) (M:Mem) (Q:Value→Mem→Prop):Prop:=LvP Try.prog Try.f26 [(2,.pointer x2),(5,.bool x5)] [.code [1,1,1]] M Q
def A26_2 (x2 x3:Option Addr) (x31:Bool) (M:Mem) (Q:Value→Mem→Prop):Prop:=LvP Try.prog Try.f26 [(2,.pointer x2),(3,.pointer x3),(31,.bool x31)] [.rg [1,1,0,1,1] 7,.code [1,1,1]] M Q
def A26_3 (x2:Option Addr) (x5:Bool) (x81_0 x81_1 x81_2 x82:Int) (M:Mem) (Q:Value→Mem→Prop):Prop:=LvP Try.prog Try.f26 [(2,.pointer x2),(5,.bool x5),(81,.agg #[.int .i64 x81_0,.int .i64 x81_1,.int .i64 x81_2]),(82,.int .i64 x82)] [.code [1,1,1,0,1,0,0],.lp [1,1,1,0,1,0,0],.blk 0,.code [1,1,1,1]] M Q
def A26_4 (x2 x3:Option Addr) (x36:Bool) (M:Mem) (Q:Value→Mem→Prop):Prop:=LvP Try.prog Try.f26 [(2,.pointer x2),(3,.pointer x3),(36,.bool x36)] [.rg [1,1,0,1,1] 12,.code [1,1,1]] M Q
def A26_5 (x2:Option Addr) (x5:Bool) (x81_0 x81_1 x81_2 x82:Int) (M:Mem) (Q:Value→Mem→Prop):Prop:=LvP Try.prog Try.f26 [(2,.pointer x2),(5,.bool x5),(81,.agg #[.int .i64 x81_0,.int .i64 x81_1,.int .i64 x81_2]),(82,.int .i64 x82)] [.blk 1,.code [1,1,1,0,1,0,0,1,1,1],.lp [1,1,1,0,1,0,0],.blk 0,.code [1,1,1,1]] M Q
def A26_6 (x5:Bool) (x92_0 x92_1 x92_2 x92_3 x92_4 x93:Int) (M:Mem) (Q:Value→Mem→Prop):Prop:=LvP Try.prog Try.f26 [(5,.bool x5),(92,.agg #[.int .i64 x92_0,.int .i64 x92_1,.int .i64 x92_2,.int .i64 x92_3,.int .i64 x92_4]),(93,.int .i64 x93)] [.code [1,1,1,1,0,1,0,0],.lp [1,1,1,1,0,1,0,0],.blk 2,.code [1,1,1,1,1]] M Q
def A26_7 (x2 x3:Option Addr) (x41:Bool) (M:Mem) (Q:Value→Mem→Prop):Prop:=LvP Try.prog Try.f26 [(2,.pointer x2),(3,.pointer x3),(41,.bool x41)] [.rg [1,1,0,1,1] 17,.code [1,1,1]] M Q
def A26_8 (x2:Option Addr) (x5:Bool) (x81_0 x81_1 x81_2 x82:Int) (M:Mem) (Q:Value→Mem→Prop):Prop:=LvP Try.prog Try.f26 [(2,.pointer x2),(5,.bool x5),(81,.agg #[.int .i64 x81_0,.int .i64 x81_1,.int .i64 x81_2]),(82,.int .i64 x82)] [.code [1,1,1,0,1,0,0,1,1,1],.lp [1,1,1,0,1,0,0],.blk 0,.code [1,1,1,1]] M Q
def A26_9 (x5:Bool) (x92_0 x92_1 x92_2 x92_3 x92_4 x93:Int) (M:Mem) (Q:Value→Mem→Prop):Prop:=LvP Try.prog Try.f26 [(5,.bool x5),(92,.agg #[.int .i64 x92_0,.int .i64 x92_1,.int .i64 x92_2,.int .i64 x92_3,.int .i64 x92_4]),(93,.int .i64 x93)] [.blk 3,.code [1,1,1,1,0,1,0,0,1,1,1],.lp [1,1,1,1,0,1,0,0],.blk 2,.code [1,1,1,1,1]] M Q
def A26_10 (x2 x3:Option Addr) (x46:Bool) (M:Mem) (Q:Value→Mem→Prop):Prop:=LvP Try.prog Try.f26 [(2,.pointer x2),(3,.pointer x3),(46,.bool x46)] [.rg [1,1,0,1,1] 22,.code [1,1,1]] M Q
def A26_11 (x5:Bool) (x92_0 x92_1 x92_2 x92_3 x92_4 x93:Int) (M:Mem) (Q:Value→Mem→Prop):Prop:=LvP Try.prog Try.f26 [(5,.bool x5),(92,.agg #[.int .i64 x92_0,.int .i64 x92_1,.int .i64 x92_2,.int .i64 x92_3,.int .i64 x92_4]),(93,.int .i64 x93)] [.code [1,1,1,1,0,1,0,0,1,1,1],.lp [1,1,1,1,0,1,0,0],.blk 2,.code [1,1,1,1,1]] M Q
def A26_12 (x2 x3:Option Addr) (x53:Bool) (M:Mem) (Q:Value→Mem→Prop):Prop:=LvP Try.prog Try.f26 [(2,.pointer x2),(3,.pointer x3),(53,.bool x53)] [.rg [1,1,0,1,1] 29,.code [1,1,1]] M Q
def A26_13 (x2:Option Addr) (x60:Bool) (M:Mem) (Q:Value→Mem→Prop):Prop:=LvP Try.prog Try.f26 [(2,.pointer x2),(60,.bool x60)] [.rg [1,1,0,1,1] 36,.code [1,1,1]] M Q
def A26_14 (x2:Option Addr) (x64:Bool) (M:Mem) (Q:Value→Mem→Prop):Prop:=LvP Try.prog Try.f26 [(2,.pointer x2),(64,.bool x64)] [.rg [1,1,0,1,1] 40,.code [1,1,1]] M Q
theorem w26_0 {x0:Array Value} {x1_0 x1_1:Int} {M:Mem} {Q:Value→Mem→Prop} (H:
 onS (((M.new (.cells x0 41)).new (.cells #[.int .i64 x1_0,.int .i64 x1_1] 23)).intAt .i64 (2*(M.new (.cells x0 41)).nb.size) 0) fun x1'=>
 onS (((M.new (.cells x0 41)).new (.cells #[.int .i64 x1_0,.int .i64 x1_1] 23)).intAt .i64 (2*(M.new (.cells x0 41)).nb.size) (0+1)) fun x2'=>
 Cn Try.prog 14 #[.agg #[.int .i64 x1',.int .i64 x2']] ((M.new (.cells x0 41)).new (.cells #[.int .i64 x1_0,.int .i64 x1_1] 23)) fun v3' N3'=>
 tyS (asI .i64 v3') fun x4'=>
 onS (N3'.boolAt (2*M.nb.size) 0) fun b5'=>
 cnd b5' (
 cnd (x4' == 0) (
 onS (N3'.intAt .i64 (2*M.nb.size) (0+1)) fun x6'=>
 Cn Try.prog 55 #[.int .i64 x6',.int .i64 0,.int .i64 7] N3' fun v7' N7'=>
 tyS (asB v7') fun b8'=>
 cnd b8' (
 ldP tyZlB0 N7' (2*M.nb.size) 0 fun vs9'=>
 Cn Try.prog 56 #[.agg vs9'.toArray] N7' fun v10' N10'=>
 tyS (asB v10') fun b11'=>
 A26_1 (some ⟨2*M.nb.size,0,none⟩) b11' N10' Q) (
 A26_1 (some ⟨2*M.nb.size,0,none⟩) false N7' Q)) (
 A26_1 (some ⟨2*M.nb.size,0,none⟩) false N3' Q)) (
 cnd (x4' == 0) (
 onS (N3'.intAt .i64 (2*M.nb.size) (0+1)) fun x12'=>
 A26_2 (some ⟨2*M.nb.size,0,none⟩) (some ⟨2*(M.new (.cells x0 41)).nb.size,0,none⟩) (x12' == 0) N3' Q) (
 A26_2 (some ⟨2*M.nb.size,0,none⟩) (some ⟨2*(M.new (.cells x0 41)).nb.size,0,none⟩) false N3' Q))):
 Cn Try.prog 26 #[.agg x0,.agg #[.int .i64 x1_0,.int .i64 x1_1]] M Q:=
 Cn.mk (cuts:=K26) (sp:=Z26) 900 b26 rfl rfl H fun G=>by kernel_rfl
theorem w26_1 {x2:Option Addr} {x5:Bool} {M:Mem} {Q:Value→Mem→Prop} (H:
 adS x2 fun a13'=>
 onS (M.intAt .i64 a13'.block (a13'.off+5)) fun x14'=>
 onS (M.intAt .i64 a13'.block (a13'.off+6)) fun x15'=>
 onS (M.intAt .i64 a13'.block (a13'.off+7)) fun x16'=>
 A26_3 x2 x5 x14' x15' x16' 0 M Q):
 A26_1 x2 x5 M Q:=
 LvP.mk (cuts:=K26) (sp:=Z26) 900 H fun G=>by kernel_rfl
theorem w26_2 {x2 x3:Option Addr} {x31:Bool} {M:Mem} {Q:Value→Mem→Prop} (H:
 cnd x31 (
 adS x2 fun a17'=>
 onS (M.intAt .i64 a17'.block (a17'.off+4)) fun x18'=>
 Cn Try.prog 55 #[.int .i64 x18',.int .i64 0,.int .i64 255] M fun v19' N19'=>
 tyS (asB v19') fun b20'=>
 A26_4 x2 x3 b20' N19' Q) (
 A26_4 x2 x3 false M Q)):
 A26_2 x2 x3 x31 M Q:=
 LvP.mk (cuts:=K26) (sp:=Z26) 900 H fun G=>by kernel_rfl
theorem w26_3 {x2:Option Addr} {x5:Bool} {x81_0 x81_1 x81_2 x82:Int} {M:Mem} {Q:Value→Mem→Prop} (H:
 cnd (decide (x82<3)) (
 puS (strV Try.prog 35 (.agg #[.int .i64 x81_0,.int .i64 x81_1,.int .i64 x81_2]) (.int .i64 x82)) fun v21'=>
 tyS (asI .i64 v21') fun x22'=>
 cnd x5 (
 Cn Try.prog 55 #[.int .i64 x22',.int .i64 0,.int .i64 7] M fun v23' N23'=>
 tyS (asB v23') fun b24'=>
 A26_5 x2 b24' x81_0 x81_1 x81_2 x82 N23' Q) (
 A26_5 x2 false x81_0 x81_1 x81_2 x82 M Q)) (
 adS x2 fun a25'=>
 onS (M.intAt .i64 a25'.block (a25'.off+10)) fun x26'=>
 onS (M.intAt .i64 a25'.block (a25'.off+11)) fun x27'=>
 onS (M.intAt .i64 a25'.block (a25'.off+12)) fun x28'=>
 onS (M.intAt .i64 a25'.block (a25'.off+13)) fun x29'=>
 onS (M.intAt .i64 a25'.block (a25'.off+14)) fun x30'=>
 A26_6 x5 x26' x27' x28' x29' x30' 0 M Q)):
 A26_3 x2 x5 x81_0 x81_1 x81_2 x82 M Q:=
 LvP.mk (cuts:=K26) (sp:=Z26) 900 H fun G=>by kernel_rfl
theorem w26_4 {x2 x3:Option Addr} {x36:Bool} {M:Mem} {Q:Value→Mem→Prop} (H:
 cnd x36 (
 adS x2 fun a31'=>
 onS (M.intAt .i64 a31'.block (a31'.off+8)) fun x32'=>
 Cn Try.prog 55 #[.int .i64 x32',.int .i64 (-1),.int .i64 7] M fun v33' N33'=>
 tyS (asB v33') fun b34'=>
 A26_7 x2 x3 b34' N33' Q) (
 A26_7 x2 x3 false M Q)):
 A26_4 x2 x3 x36 M Q:=
 LvP.mk (cuts:=K26) (sp:=Z26) 900 H fun G=>by kernel_rfl
theorem w26_5 {x2:Option Addr} {x5:Bool} {x81_0 x81_1 x81_2 x82:Int} {M:Mem} {Q:Value→Mem→Prop} (H:
 A26_8 x2 x5 x81_0 x81_1 x81_2 x82 M Q):
 A26_5 x2 x5 x81_0 x81_1 x81_2 x82 M Q:=
 LvP.mk (cuts:=K26) (sp:=Z26) 900 H fun G=>by kernel_rfl
theorem w26_6 {x5:Bool} {x92_0 x92_1 x92_2 x92_3 x92_4 x93:Int} {M:Mem} {Q:Value→Mem→Prop} (H:
 cnd (decide (x93<5)) (
 puS (strV Try.prog 36 (.agg #[.int .i64 x92_0,.int .i64 x92_1,.int .i64 x92_2,.int .i64 x92_3,.int .i64 x92_4]) (.int .i64 x93)) fun v35'=>
 tyS (asI .i64 v35') fun x36'=>
 cnd x5 (
 Cn Try.prog 55 #[.int .i64 x36',.int .i64 (-31),.int .i64 31] M fun v37' N37'=>
 tyS (asB v37') fun b38'=>
 A26_9 b38' x92_0 x92_1 x92_2 x92_3 x92_4 x93 N37' Q) (
 A26_9 false x92_0 x92_1 x92_2 x92_3 x92_4 x93 M Q)) (
 cnd (!x5) (
 Q (.int .i64 2) M) (
 Q (.int .i64 0) M))):
 A26_6 x5 x92_0 x92_1 x92_2 x92_3 x92_4 x93 M Q:=
 LvP.mk (cuts:=K26) (sp:=Z26) 900 H fun G=>by kernel_rfl
theorem w26_7 {x2 x3:Option Addr} {x41:Bool} {M:Mem} {Q:Value→Mem→Prop} (H:
 cnd x41 (
 adS x2 fun a39'=>
 onS (M.intAt .i64 a39'.block (a39'.off+9)) fun x40'=>
 Cn Try.prog 55 #[.int .i64 x40',.int .i64 0,.int .i64 255] M fun v41' N41'=>
 tyS (asB v41') fun b42'=>
 A26_10 x2 x3 b42' N41' Q) (
 A26_10 x2 x3 false M Q)):
 A26_7 x2 x3 x41 M Q:=
 LvP.mk (cuts:=K26) (sp:=Z26) 900 H fun G=>by kernel_rfl
theorem w26_8 {x2:Option Addr} {x5:Bool} {x81_0 x81_1 x81_2 x82:Int} {M:Mem} {Q:Value→Mem→Prop} (H:
 A26_3 x2 x5 x81_0 x81_1 x81_2 (IntKind.i64.wrap (x82+1)) M Q):
 A26_8 x2 x5 x81_0 x81_1 x81_2 x82 M Q:=
 LvP.mk (cuts:=K26) (sp:=Z26) 900 H fun G=>by kernel_rfl
theorem w26_9 {x5:Bool} {x92_0 x92_1 x92_2 x92_3 x92_4 x93:Int} {M:Mem} {Q:Value→Mem→Prop} (H:
 A26_11 x5 x92_0 x92_1 x92_2 x92_3 x92_4 x93 M Q):
 A26_9 x5 x92_0 x92_1 x92_2 x92_3 x92_4 x93 M Q:=
 LvP.mk (cuts:=K26) (sp:=Z26) 900 H fun G=>by kernel_rfl
theorem w26_10 {x2 x3:Option Addr} {x46:Bool} {M:Mem} {Q:Value→Mem→Prop} (H:
 cnd x46 (
 adS x2 fun a43'=>
 onS (M.intAt .i64 a43'.block (a43'.off+15)) fun x44'=>
 adS x3 fun a45'=>
 onS (M.intAt .i64 a45'.block a45'.off) fun x46'=>
 Cn Try.prog 57 #[.int .i64 x44',.int .i64 x46'] M fun v47' N47'=>
 tyS (asB v47') fun b48'=>
 A26_12 x2 x3 b48' N47' Q) (
 A26_12 x2 x3 false M Q)):
 A26_10 x2 x3 x46 M Q:=
 LvP.mk (cuts:=K26) (sp:=Z26) 900 H fun G=>by kernel_rfl
theorem w26_11 {x5:Bool} {x92_0 x92_1 x92_2 x92_3 x92_4 x93:Int} {M:Mem} {Q:Value→Mem→Prop} (H:
 A26_6 x5 x92_0 x92_1 x92_2 x92_3 x92_4 (IntKind.i64.wrap (x93+1)) M Q):
 A26_11 x5 x92_0 x92_1 x92_2 x92_3 x92_4 x93 M Q:=
 LvP.mk (cuts:=K26) (sp:=Z26) 900 H fun G=>by kernel_rfl
theorem w26_12 {x2 x3:Option Addr} {x53:Bool} {M:Mem} {Q:Value→Mem→Prop} (H:
 cnd x53 (
 adS x2 fun a49'=>
 onS (M.intAt .i64 a49'.block (a49'.off+16)) fun x50'=>
 adS x3 fun a51'=>
 onS (M.intAt .i64 a51'.block (a51'.off+1)) fun x52'=>
 Cn Try.prog 57 #[.int .i64 x50',.int .i64 x52'] M fun v53' N53'=>
 tyS (asB v53') fun b54'=>
 A26_13 x2 b54' N53' Q) (
 A26_13 x2 false M Q)):
 A26_12 x2 x3 x53 M Q:=
 LvP.mk (cuts:=K26) (sp:=Z26) 900 H fun G=>by kernel_rfl
theorem w26_13 {x2:Option Addr} {x60:Bool} {M:Mem} {Q:Value→Mem→Prop} (H:
 cnd x60 (
 adS x2 fun a55'=>
 ldP tyZlB0 M a55'.block a55'.off fun vs56'=>
 Cn Try.prog 58 #[.agg vs56'.toArray] M fun v57' N57'=>
 tyS (asB v57') fun b58'=>
 A26_14 x2 b58' N57' Q) (
 A26_14 x2 false M Q)):
 A26_13 x2 x60 M Q:=
 LvP.mk (cuts:=K26) (sp:=Z26) 900 H fun G=>by kernel_rfl
theorem w26_14 {x2:Option Addr} {x64:Bool} {M:Mem} {Q:Value→Mem→Prop} (H:
 cnd x64 (
 adS x2 fun a59'=>
 onS (M.boolAt a59'.block (a59'.off+3)) fun b60'=>
 cnd (!b60') (
 A26_1 x2 true M Q) (
 adS x2 fun a61'=>
 onS (M.intAt .i64 a61'.block (a61'.off+5)) fun x62'=>
 onS (M.intAt .i64 a61'.block (a61'.off+6)) fun x63'=>
 onS (M.intAt .i64 a61'.block (a61'.off+7)) fun x64'=>
 puS (binV Try.prog .eql 35 35 (.agg #[.int .i64 x62',.int .i64 x63',.int .i64 x64']) (.agg #[.int .i64 0,.int .i64 0,.int .i64 0])) fun v65'=>
 tyS (asB v65') fun b66'=>
 cnd b66' (
 adS x2 fun a67'=>
 onS (M.intAt .i64 a67'.block (a67'.off+8)) fun x68'=>
 A26_1 x2 (x68' == (-1)) M Q) (
 A26_1 x2 false M Q))) (
 A26_1 x2 false M Q)):
 A26_14 x2 x64 M Q:=
 LvP.mk (cuts:=K26) (sp:=Z26) 900 H fun G=>by kernel_rfl
def K56:List (List It × List Nat):=[([.rg [1,0] 9,.code [1,1]],[1,11]),([.rg [1,0] 14,.code [1,1]],[1,16]),([.rg [1,0] 20,.code [1,1]],[1,22]),([.rg [1,0] 25,.code [1,1]],[1,27]),([.rg [1,0] 29,.code [1,1]],[1,31]),([.rg [1,0] 34,.code [1,1]],[1,36]),([.rg [1,0] 39,.code [1,1]],[1,41]),([.rg [1,0] 44,.code [1,1]],[1,46])]
def Z56:List (List Nat × List Nat):=[([1,0],[9,14,20,25,29,34,39,44,48])]
theorem b56:Try.prog.funcs[56]?=some Try.f56∧(Orc.tab Try.prog).lookup 56=none∧Try.f56.body=some (codeOf Try.f56):=⟨by kernel_rfl,by kernel_rfl,by kernel_rfl⟩
def A56_1 (x1:Option Addr) (x11:Bool) (M:Mem) (Q:Value→Mem→Prop):Prop:=LvP Try.prog Try.f56 [(1,.pointer x1),(11,.bool x11)] [.rg [1,0] 9,.code [1,1]] M Q
def A56_2 (x1:Option Addr) (x16:Bool) (M:Mem) (Q:Value→Mem→Prop):Prop:=LvP Try.prog Try.f56 [(1,.pointer x1),(16,.bool x16)] [.rg [1,0] 14,.code [1,1]] M Q
def A56_3 (x1:Option Addr) (x22:Bool) (M:Mem) (Q:Value→Mem→Prop):Prop:=LvP Try.prog Try.f56 [(1,.pointer x1),(22,.bool x22)] [.rg [1,0] 20,.code [1,1]] M Q
def A56_4 (x1:Option Addr) (x27:Bool) (M:Mem) (Q:Value→Mem→Prop):Prop:=LvP Try.prog Try.f56 [(1,.pointer x1),(27,.bool x27)] [.rg [1,0] 25,.code [1,1]] M Q
def A56_5 (x1:Option Addr) (x31:Bool) (M:Mem) (Q:Value→Mem→Prop):Prop:=LvP Try.prog Try.f56 [(1,.pointer x1),(31,.bool x31)] [.rg [1,0] 29,.code [1,1]] M Q
def A56_6 (x1:Option Addr) (x36:Bool) (M:Mem) (Q:Value→Mem→Prop):Prop:=LvP Try.prog Try.f56 [(1,.pointer x1),(36,.bool x36)] [.rg [1,0] 34,.code [1,1]] M Q
def A56_7 (x1:Option Addr) (x41:Bool) (M:Mem) (Q:Value→Mem→Prop):Prop:=LvP Try.prog Try.f56 [(1,.pointer x1),(41,.bool x41)] [.rg [1,0] 39,.code [1,1]] M Q
def A56_8 (x1:Option Addr) (x46:Bool) (M:Mem) (Q:Value→Mem→Prop):Prop:=LvP Try.prog Try.f56 [(1,.pointer x1),(46,.bool x46)] [.rg [1,0] 44,.code [1,1]] M Q
theorem w56_0 {x0:Array Value} {M:Mem} {Q:Value→Mem→Prop} (H:
 onS ((M.new (.cells x0 41)).boolAt (2*M.nb.size) (0+2)) fun b1'=>
 cnd (!b1') (
 onS ((M.new (.cells x0 41)).boolAt (2*M.nb.size) (0+3)) fun b2'=>
 A56_1 (some ⟨2*M.nb.size,0,none⟩) (!b2') (M.new (.cells x0 41)) Q) (
 A56_1 (some ⟨2*M.nb.size,0,none⟩) false (M.new (.cells x0 41)) Q)):
 Cn Try.prog 56 #[.agg x0] M Q:=
 Cn.mk (cuts:=K56) (sp:=Z56) 900 b56 rfl rfl H fun G=>by kernel_rfl
theorem w56_1 {x1:Option Addr} {x11:Bool} {M:Mem} {Q:Value→Mem→Prop} (H:
 cnd x11 (
 adS x1 fun a3'=>
 onS (M.intAt .i64 a3'.block (a3'.off+4)) fun x4'=>
 A56_2 x1 (x4' == 0) M Q) (
 A56_2 x1 false M Q)):
 A56_1 x1 x11 M Q:=
 LvP.mk (cuts:=K56) (sp:=Z56) 900 H fun G=>by kernel_rfl
theorem w56_2 {x1:Option Addr} {x16:Bool} {M:Mem} {Q:Value→Mem→Prop} (H:
 cnd x16 (
 adS x1 fun a5'=>
 onS (M.intAt .i64 a5'.block (a5'.off+5)) fun x6'=>
 onS (M.intAt .i64 a5'.block (a5'.off+6)) fun x7'=>
 onS (M.intAt .i64 a5'.block (a5'.off+7)) fun x8'=>
 puS (binV Try.prog .eql 35 35 (.agg #[.int .i64 x6',.int .i64 x7',.int .i64 x8']) (.agg #[.int .i64 0,.int .i64 0,.int .i64 0])) fun v9'=>
 tyS (asB v9') fun b10'=>
 A56_3 x1 b10' M Q) (
 A56_3 x1 false M Q)):
 A56_2 x1 x16 M Q:=
 LvP.mk (cuts:=K56) (sp:=Z56) 900 H fun G=>by kernel_rfl
theorem w56_3 {x1:Option Addr} {x22:Bool} {M:Mem} {Q:Value→Mem→Prop} (H:
 cnd x22 (
 adS x1 fun a11'=>
 onS (M.intAt .i64 a11'.block (a11'.off+8)) fun x12'=>
 A56_4 x1 (x12' == 0) M Q) (
 A56_4 x1 false M Q)):
 A56_3 x1 x22 M Q:=
 LvP.mk (cuts:=K56) (sp:=Z56) 900 H fun G=>by kernel_rfl
theorem w56_4 {x1:Option Addr} {x27:Bool} {M:Mem} {Q:Value→Mem→Prop} (H:
 cnd x27 (
 adS x1 fun a13'=>
 ldP tyZlB0 M a13'.block a13'.off fun vs14'=>
 Cn Try.prog 77 #[.agg vs14'.toArray] M fun v15' N15'=>
 tyS (asB v15') fun b16'=>
 A56_5 x1 b16' N15' Q) (
 A56_5 x1 false M Q)):
 A56_4 x1 x27 M Q:=
 LvP.mk (cuts:=K56) (sp:=Z56) 900 H fun G=>by kernel_rfl
theorem w56_5 {x1:Option Addr} {x31:Bool} {M:Mem} {Q:Value→Mem→Prop} (H:
 cnd x31 (
 adS x1 fun a17'=>
 onS (M.intAt .i64 a17'.block (a17'.off+15)) fun x18'=>
 A56_6 x1 (x18' == 0) M Q) (
 A56_6 x1 false M Q)):
 A56_5 x1 x31 M Q:=
 LvP.mk (cuts:=K56) (sp:=Z56) 900 H fun G=>by kernel_rfl
theorem w56_6 {x1:Option Addr} {x36:Bool} {M:Mem} {Q:Value→Mem→Prop} (H:
 cnd x36 (
 adS x1 fun a19'=>
 onS (M.intAt .i64 a19'.block (a19'.off+16)) fun x20'=>
 A56_7 x1 (x20' == 0) M Q) (
 A56_7 x1 false M Q)):
 A56_6 x1 x36 M Q:=
 LvP.mk (cuts:=K56) (sp:=Z56) 900 H fun G=>by kernel_rfl
theorem w56_7 {x1:Option Addr} {x41:Bool} {M:Mem} {Q:Value→Mem→Prop} (H:
 cnd x41 (
 adS x1 fun a21'=>
 onS (M.boolAt a21'.block (a21'.off+17)) fun b22'=>
 A56_8 x1 (!b22') M Q) (
 A56_8 x1 false M Q)):
 A56_7 x1 x41 M Q:=
 LvP.mk (cuts:=K56) (sp:=Z56) 900 H fun G=>by kernel_rfl
theorem w56_8 {x1:Option Addr} {x46:Bool} {M:Mem} {Q:Value→Mem→Prop} (H:
 cnd x46 (
 adS x1 fun a23'=>
 ldP tyZlB0 M a23'.block a23'.off fun vs24'=>
 Cn Try.prog 58 #[.agg vs24'.toArray] M fun v25' N25'=>
 tyS (asB v25') fun b26'=>
 Q (.bool b26') N25') (
 Q (.bool false) M)):
 A56_8 x1 x46 M Q:=
 LvP.mk (cuts:=K56) (sp:=Z56) 900 H fun G=>by kernel_rfl
def K58:List (List It × List Nat):=[([.rg [1,1,1,0,0,1,0,0] 10,.code [1,1,1,0,0,1,0,1],.blk 0,.code [1,1,1,1]],[1,27]),([.code [1,1,1,0,0,1,1,1],.blk 0,.code [1,1,1,1]],[1,54]),([.rg [1,1,1,0,0,1,0,0] 15,.code [1,1,1,0,0,1,0,1],.blk 0,.code [1,1,1,1]],[1,32]),([.code [1,1,1,0,0,1,1,1,1,1],.blk 0,.code [1,1,1,1]],[1,66]),([.rg [1,1,1,0,0,1,0,0] 20,.code [1,1,1,0,0,1,0,1],.blk 0,.code [1,1,1,1]],[1,37]),([.code [1,1,1,0,0,1,1,1,1,1,1,1],.blk 0,.code [1,1,1,1]],[1,81]),([.rg [1,1,1,0,0,1,0,0] 25,.code [1,1,1,0,0,1,0,1],.blk 0,.code [1,1,1,1]],[1,42]),([.code [1,1,1,1,0,1,0,0],.lp [1,1,1,1,0,1,0,0],.blk 1,.code [1,1,1,1,1]],[1,96,97]),([.rg [1,1,1,0,0,1,0,0] 31,.code [1,1,1,0,0,1,0,1],.blk 0,.code [1,1,1,1]],[1,48]),([.code [1,1,1,1,1,0,1,0,0],.lp [1,1,1,1,1,0,1,0,0],.blk 3,.code [1,1,1,1,1,1]],[105,106,107])]
def Z58:List (List Nat × List Nat):=[([1,1,1,0,0,1,0,0],[10,15,20,25,31,37])]
theorem b58:Try.prog.funcs[58]?=some Try.f58∧(Orc.tab Try.prog).lookup 58=none∧Try.f58.body=some (codeOf Try.f58):=⟨by kernel_rfl,by kernel_rfl,by kernel_rfl⟩
def A58_1 (x1:Option Addr) (x27:Bool) (M:Mem) (Q:Value→Mem→Prop):Prop:=LvP Try.prog Try.f58 [(1,.pointer x1),(27,.bool x27)] [.rg [1,1,1,0,0,1,0,0] 10,.code [1,1,1,0,0,1,0,1],.blk 0,.code [1,1,1,1]] M Q
def A58_2 (x1:Option Addr) (x54:Bool) (M:Mem) (Q:Value→Mem→Prop):Prop:=LvP Try.prog Try.f58 [(1,.pointer x1),(54,.bool x54)] [.code [1,1,1,0,0,1,1,1],.blk 0,.code [1,1,1,1]] M Q
def A58_3 (x1:Option Addr) (x32:Bool) (M:Mem) (Q:Value→Mem→Prop):Prop:=LvP Try.prog Try.f58 [(1,.pointer x1),(32,.bool x32)] [.rg [1,1,1,0,0,1,0,0] 15,.code [1,1,1,0,0,1,0,1],.blk 0,.code [1,1,1,1]] M Q
def A58_4 (x1:Option Addr) (x66:Bool) (M:Mem) (Q:Value→Mem→Prop):Prop:=LvP Try.prog Try.f58 [(1,.pointer x1),(66,.bool x66)] [.code [1,1,1,0,0,1,1,1,1,1],.blk 0,.code [1,1,1,1]] M Q
def A58_5 (x1:Option Addr) (x37:Bool) (M:Mem) (Q:Value→Mem→Prop):Prop:=LvP Try.prog Try.f58 [(1,.pointer x1),(37,.bool x37)] [.rg [1,1,1,0,0,1,0,0] 20,.code [1,1,1,0,0,1,0,1],.blk 0,.code [1,1,1,1]] M Q
def A58_6 (x1:Option Addr) (x81:Bool) (M:Mem) (Q:Value→Mem→Prop):Prop:=LvP Try.prog Try.f58 [(1,.pointer x1),(81,.bool x81)] [.code [1,1,1,0,0,1,1,1,1,1,1,1],.blk 0,.code [1,1,1,1]] M Q
def A58_7 (x1:Option Addr) (x42:Bool) (M:Mem) (Q:Value→Mem→Prop):Prop:=LvP Try.prog Try.f58 [(1,.pointer x1),(42,.bool x42)] [.rg [1,1,1,0,0,1,0,0] 25,.code [1,1,1,0,0,1,0,1],.blk 0,.code [1,1,1,1]] M Q
def A58_8 (x1:Option Addr) (x96_0 x96_1 x96_2 x96_3 x97:Int) (M:Mem) (Q:Value→Mem→Prop):Prop:=LvP Try.prog Try.f58 [(1,.pointer x1),(96,.agg #[.int .i64 x96_0,.int .i64 x96_1,.int .i64 x96_2,.int .i64 x96_3]),(97,.int .i64 x97)] [.code [1,1,1,1,0,1,0,0],.lp [1,1,1,1,0,1,0,0],.blk 1,.code [1,1,1,1,1]] M Q
def A58_9 (x1:Option Addr) (x48:Bool) (M:Mem) (Q:Value→Mem→Prop):Prop:=LvP Try.prog Try.f58 [(1,.pointer x1),(48,.bool x48)] [.rg [1,1,1,0,0,1,0,0] 31,.code [1,1,1,0,0,1,0,1],.blk 0,.code [1,1,1,1]] M Q
def A58_10 (Ax105:Option Addr) (lx105 cx105:Nat) (x106 x107:Int) (M:Mem) (Q:Value→Mem→Prop):Prop:=LvP Try.prog Try.f58 [(105,.slice Ax105 lx105 cx105),(106,.int .i64 x106),(107,.int .i64 x107)] [.code [1,1,1,1,1,0,1,0,0],.lp [1,1,1,1,1,0,1,0,0],.blk 3,.code [1,1,1,1,1,1]] M Q
theorem w58_0 {x0:Array Value} {M:Mem} {Q:Value→Mem→Prop} (H:
 onS ((M.new (.cells x0 41)).boolAt (2*M.nb.size) (0+23)) fun b1'=>
 cnd b1' (
 onS ((M.new (.cells x0 41)).intAt .i64 (2*M.nb.size) (0+25)) fun x2'=>
 puS (binV Try.prog .shl 3 111 (.int .i64 1) (.int .u64 (IntKind.u64.wrap (((BitVec.ofInt (IntKind.bits .u64) (IntKind.u64.wrap (x2')) &&& BitVec.ofInt (IntKind.bits .u64) 3).toNat:Int))))) fun v3'=>
 tyS (asI .i64 v3') fun x4'=>
 ldP tyZlB0 (M.new (.cells x0 41)) (2*M.nb.size) 0 fun vs5'=>
 Cn Try.prog 77 #[.agg vs5'.toArray] (M.new (.cells x0 41)) fun v6' N6'=>
 tyS (asB v6') fun b7'=>
 cnd b7' (
 onS (N6'.intAt .i64 (2*M.nb.size) (0+18)) fun x8'=>
 onS (N6'.intAt .i64 (2*M.nb.size) (0+19)) fun x9'=>
 onS (N6'.intAt .i64 (2*M.nb.size) (0+20)) fun x10'=>
 onS (N6'.intAt .i64 (2*M.nb.size) (0+21)) fun x11'=>
 puS (binV Try.prog .eql 37 37 (.agg #[.int .i64 x8',.int .i64 x9',.int .i64 x10',.int .i64 x11']) (.agg #[.int .i64 0,.int .i64 0,.int .i64 0,.int .i64 0])) fun v12'=>
 tyS (asB v12') fun b13'=>
 cnd b13' (
 onS (N6'.intAt .i64 (2*M.nb.size) (0+22)) fun x14'=>
 A58_1 (some ⟨2*M.nb.size,0,none⟩) (x14' == 0) N6' Q) (
 A58_1 (some ⟨2*M.nb.size,0,none⟩) false N6' Q)) (
 onS (N6'.intAt .i64 (2*M.nb.size) (0+22)) fun x15'=>
 Cn Try.prog 55 #[.int .i64 x15',.int .i64 0,.int .i64 7] N6' fun v16' N16'=>
 tyS (asB v16') fun b17'=>
 cnd (!b17') (
 A58_2 (some ⟨2*M.nb.size,0,none⟩) true N16' Q) (
 onS (N16'.slAt (2*M.nb.size) (0+26)) fun s18'=>
 A58_2 (some ⟨2*M.nb.size,0,none⟩) (((s18'.2.1:Int)) != x4') N16' Q))) (
 ldP tyZlB0 (M.new (.cells x0 41)) (2*M.nb.size) 0 fun vs19'=>
 Cn Try.prog 77 #[.agg vs19'.toArray] (M.new (.cells x0 41)) fun v20' N20'=>
 tyS (asB v20') fun b21'=>
 cnd b21' (
 onS (N20'.intAt .i64 (2*M.nb.size) (0+18)) fun x22'=>
 onS (N20'.intAt .i64 (2*M.nb.size) (0+19)) fun x23'=>
 onS (N20'.intAt .i64 (2*M.nb.size) (0+20)) fun x24'=>
 onS (N20'.intAt .i64 (2*M.nb.size) (0+21)) fun x25'=>
 puS (binV Try.prog .eql 37 37 (.agg #[.int .i64 x22',.int .i64 x23',.int .i64 x24',.int .i64 x25']) (.agg #[.int .i64 0,.int .i64 0,.int .i64 0,.int .i64 0])) fun v26'=>
 tyS (asB v26') fun b27'=>
 cnd b27' (
 onS (N20'.intAt .i64 (2*M.nb.size) (0+22)) fun x28'=>
 A58_1 (some ⟨2*M.nb.size,0,none⟩) (x28' == 0) N20' Q) (
 A58_1 (some ⟨2*M.nb.size,0,none⟩) false N20' Q)) (
 onS (N20'.intAt .i64 (2*M.nb.size) (0+22)) fun x29'=>
 Cn Try.prog 55 #[.int .i64 x29',.int .i64 0,.int .i64 7] N20' fun v30' N30'=>
 tyS (asB v30') fun b31'=>
 cnd (!b31') (
 A58_2 (some ⟨2*M.nb.size,0,none⟩) true N30' Q) (
 onS (N30'.slAt (2*M.nb.size) (0+26)) fun s32'=>
 A58_2 (some ⟨2*M.nb.size,0,none⟩) (((s32'.2.1:Int)) != 0) N30' Q)))):
 Cn Try.prog 58 #[.agg x0] M Q:=
 Cn.mk (cuts:=K58) (sp:=Z58) 900 b58 rfl rfl H fun G=>by kernel_rfl
theorem w58_1 {x1:Option Addr} {x27:Bool} {M:Mem} {Q:Value→Mem→Prop} (H:
 cnd x27 (
 adS x1 fun a33'=>
 onS (M.boolAt a33'.block (a33'.off+23)) fun b34'=>
 A58_3 x1 (!b34') M Q) (
 A58_3 x1 false M Q)):
 A58_1 x1 x27 M Q:=
 LvP.mk (cuts:=K58) (sp:=Z58) 900 H fun G=>by kernel_rfl
theorem w58_2 {x1:Option Addr} {x54:Bool} {M:Mem} {Q:Value→Mem→Prop} (H:
 cnd x54 (
 Q (.bool false) M) (
 adS x1 fun a35'=>
 onS (M.boolAt a35'.block (a35'.off+23)) fun b36'=>
 cnd b36' (
 adS x1 fun a37'=>
 onS (M.intAt .i64 a37'.block (a37'.off+24)) fun x38'=>
 Cn Try.prog 55 #[.int .i64 x38',.int .i64 3,.int .i64 6] M fun v39' N39'=>
 tyS (asB v39') fun b40'=>
 cnd (!b40') (
 A58_4 x1 true N39' Q) (
 adS x1 fun a41'=>
 onS (N39'.intAt .i64 a41'.block (a41'.off+25)) fun x42'=>
 Cn Try.prog 55 #[.int .i64 x42',.int .i64 0,.int .i64 3] N39' fun v43' N43'=>
 tyS (asB v43') fun b44'=>
 A58_4 x1 (!b44') N43' Q)) (
 A58_4 x1 false M Q))):
 A58_2 x1 x54 M Q:=
 LvP.mk (cuts:=K58) (sp:=Z58) 900 H fun G=>by kernel_rfl
theorem w58_3 {x1:Option Addr} {x32:Bool} {M:Mem} {Q:Value→Mem→Prop} (H:
 cnd x32 (
 adS x1 fun a45'=>
 onS (M.intAt .i64 a45'.block (a45'.off+24)) fun x46'=>
 A58_5 x1 (x46' == 0) M Q) (
 A58_5 x1 false M Q)):
 A58_3 x1 x32 M Q:=
 LvP.mk (cuts:=K58) (sp:=Z58) 900 H fun G=>by kernel_rfl
theorem w58_4 {x1:Option Addr} {x66:Bool} {M:Mem} {Q:Value→Mem→Prop} (H:
 cnd x66 (
 Q (.bool false) M) (
 adS x1 fun a47'=>
 onS (M.boolAt a47'.block (a47'.off+23)) fun b48'=>
 cnd (!b48') (
 adS x1 fun a49'=>
 onS (M.intAt .i64 a49'.block (a49'.off+24)) fun x50'=>
 cnd (x50' != 0) (
 A58_6 x1 true M Q) (
 adS x1 fun a51'=>
 onS (M.intAt .i64 a51'.block (a51'.off+25)) fun x52'=>
 A58_6 x1 (x52' != 0) M Q)) (
 A58_6 x1 false M Q))):
 A58_4 x1 x66 M Q:=
 LvP.mk (cuts:=K58) (sp:=Z58) 900 H fun G=>by kernel_rfl
theorem w58_5 {x1:Option Addr} {x37:Bool} {M:Mem} {Q:Value→Mem→Prop} (H:
 cnd x37 (
 adS x1 fun a53'=>
 onS (M.intAt .i64 a53'.block (a53'.off+25)) fun x54'=>
 A58_7 x1 (x54' == 0) M Q) (
 A58_7 x1 false M Q)):
 A58_5 x1 x37 M Q:=
 LvP.mk (cuts:=K58) (sp:=Z58) 900 H fun G=>by kernel_rfl
theorem w58_6 {x1:Option Addr} {x81:Bool} {M:Mem} {Q:Value→Mem→Prop} (H:
 cnd x81 (
 Q (.bool false) M) (
 adS x1 fun a55'=>
 onS (M.intAt .i64 a55'.block (a55'.off+18)) fun x56'=>
 onS (M.intAt .i64 a55'.block (a55'.off+19)) fun x57'=>
 onS (M.intAt .i64 a55'.block (a55'.off+20)) fun x58'=>
 onS (M.intAt .i64 a55'.block (a55'.off+21)) fun x59'=>
 A58_8 x1 x56' x57' x58' x59' 0 M Q)):
 A58_6 x1 x81 M Q:=
 LvP.mk (cuts:=K58) (sp:=Z58) 900 H fun G=>by kernel_rfl
theorem w58_7 {x1:Option Addr} {x42:Bool} {M:Mem} {Q:Value→Mem→Prop} (H:
 cnd x42 (
 adS x1 fun a60'=>
 onS (M.slAt a60'.block (a60'.off+26)) fun s61'=>
 A58_9 x1 (((s61'.2.1:Int)) == 0) M Q) (
 A58_9 x1 false M Q)):
 A58_7 x1 x42 M Q:=
 LvP.mk (cuts:=K58) (sp:=Z58) 900 H fun G=>by kernel_rfl
theorem w58_8 {x1:Option Addr} {x96_0 x96_1 x96_2 x96_3 x97:Int} {M:Mem} {Q:Value→Mem→Prop} (H:
 cnd (decide (x97<4)) (
 puS (strV Try.prog 37 (.agg #[.int .i64 x96_0,.int .i64 x96_1,.int .i64 x96_2,.int .i64 x96_3]) (.int .i64 x97)) fun v62'=>
 tyS (asI .i64 v62') fun x63'=>
 Cn Try.prog 55 #[.int .i64 x63',.int .i64 0,.int .i64 63] M fun v64' N64'=>
 tyS (asB v64') fun b65'=>
 cnd (!b65') (
 Q (.bool false) N64') (
 A58_8 x1 x96_0 x96_1 x96_2 x96_3 (IntKind.i64.wrap (x97+1)) N64' Q)) (
 adS x1 fun a66'=>
 onS (M.slAt a66'.block (a66'.off+26)) fun s67'=>
 A58_10 s67'.1 s67'.2.1 s67'.2.2 (s67'.2.1:Int) 0 M Q)):
 A58_8 x1 x96_0 x96_1 x96_2 x96_3 x97 M Q:=
 LvP.mk (cuts:=K58) (sp:=Z58) 900 H fun G=>by kernel_rfl
theorem w58_9 {x1:Option Addr} {x48:Bool} {M:Mem} {Q:Value→Mem→Prop} (H:
 cnd x48 (
 adS x1 fun a68'=>
 onS (M.boolAt a68'.block (a68'.off+27)) fun b69'=>
 onS (M.boolAt a68'.block (a68'.off+28)) fun b70'=>
 onS (M.boolAt a68'.block (a68'.off+29)) fun b71'=>
 puS (binV Try.prog .eql 39 39 (.agg #[.bool b69',.bool b70',.bool b71']) (.agg #[.bool false,.bool false,.bool false])) fun v72'=>
 tyS (asB v72') fun b73'=>
 Q (.bool b73') M) (
 Q (.bool false) M)):
 A58_9 x1 x48 M Q:=
 LvP.mk (cuts:=K58) (sp:=Z58) 900 H fun G=>by kernel_rfl
theorem w58_10 {Ax105:Option Addr} {lx105 cx105:Nat} {x106 x107:Int} {M:Mem} {Q:Value→Mem→Prop} (H:
 cnd (decide (x107<x106)) (
 ixS (idxA Ax105 lx105 4 x107) fun a74'=>
 onS (M.intAt .i64 a74'.block a74'.off) fun x75'=>
 onS (M.intAt .i64 a74'.block (a74'.off+1)) fun x76'=>
 onS (M.intAt .i64 a74'.block (a74'.off+2)) fun x77'=>
 onS (M.intAt .i64 a74'.block (a74'.off+3)) fun x78'=>
 stP (some 4) #[.int .i64 x75',.int .i64 x76',.int .i64 x77',.int .i64 x78'] (M.new (.cells #[.int .i64 0,.int .i64 0,.int .i64 0,.int .i64 0] 96)) (2*M.nb.size) 0 fun M79'=>
 onS (M79'.intAt .i64 (2*M.nb.size) 0) fun x80'=>
 onS (M79'.intAt .i64 (2*M.nb.size) (0+1)) fun x81'=>
 onS (M79'.intAt .i64 (2*M.nb.size) (0+2)) fun x82'=>
 onS (M79'.intAt .i64 (2*M.nb.size) (0+3)) fun x83'=>
 Cn Try.prog 79 #[.agg #[.int .i64 x80',.int .i64 x81',.int .i64 x82',.int .i64 x83']] M79' fun v84' N84'=>
 tyS (asB v84') fun b85'=>
 cnd (!b85') (
 Q (.bool false) N84') (
 A58_10 Ax105 lx105 cx105 x106 (IntKind.i64.wrap (x107+1)) N84' Q)) (
 Q (.bool true) M)):
 A58_10 Ax105 lx105 cx105 x106 x107 M Q:=
 LvP.mk (cuts:=K58) (sp:=Z58) 900 H fun G=>by kernel_rfl
def K79:List (List It × List Nat):=[([.rg [1,0] 9,.code [1,1]],[1,11]),([.rg [1,0] 14,.code [1,1]],[1,16])]
def Z79:List (List Nat × List Nat):=[([1,0],[9,14,19])]
theorem b79:Try.prog.funcs[79]?=some Try.f79∧(Orc.tab Try.prog).lookup 79=none∧Try.f79.body=some (codeOf Try.f79):=⟨by kernel_rfl,by kernel_rfl,by kernel_rfl⟩
def A79_1 (x1:Option Addr) (x11:Bool) (M:Mem) (Q:Value→Mem→Prop):Prop:=LvP Try.prog Try.f79 [(1,.pointer x1),(11,.bool x11)] [.rg [1,0] 9,.code [1,1]] M Q
def A79_2 (x1:Option Addr) (x16:Bool) (M:Mem) (Q:Value→Mem→Prop):Prop:=LvP Try.prog Try.f79 [(1,.pointer x1),(16,.bool x16)] [.rg [1,0] 14,.code [1,1]] M Q
theorem w79_0 {x0_0 x0_1 x0_2 x0_3:Int} {M:Mem} {Q:Value→Mem→Prop} (H:
 onS ((M.new (.cells #[.int .i64 x0_0,.int .i64 x0_1,.int .i64 x0_2,.int .i64 x0_3] 96)).intAt .i64 (2*M.nb.size) 0) fun x1'=>
 Cn Try.prog 55 #[.int .i64 x1',.int .i64 0,.int .i64 15] (M.new (.cells #[.int .i64 x0_0,.int .i64 x0_1,.int .i64 x0_2,.int .i64 x0_3] 96)) fun v2' N2'=>
 tyS (asB v2') fun b3'=>
 cnd b3' (
 onS (N2'.intAt .i64 (2*M.nb.size) (0+2)) fun x4'=>
 Cn Try.prog 55 #[.int .i64 x4',.int .i64 0,.int .i64 15] N2' fun v5' N5'=>
 tyS (asB v5') fun b6'=>
 A79_1 (some ⟨2*M.nb.size,0,none⟩) b6' N5' Q) (
 A79_1 (some ⟨2*M.nb.size,0,none⟩) false N2' Q)):
 Cn Try.prog 79 #[.agg #[.int .i64 x0_0,.int .i64 x0_1,.int .i64 x0_2,.int .i64 x0_3]] M Q:=
 Cn.mk (cuts:=K79) (sp:=Z79) 900 b79 rfl rfl H fun G=>by kernel_rfl
theorem w79_1 {x1:Option Addr} {x11:Bool} {M:Mem} {Q:Value→Mem→Prop} (H:
 cnd x11 (
 adS x1 fun a7'=>
 onS (M.intAt .i64 a7'.block (a7'.off+1)) fun x8'=>
 Cn Try.prog 55 #[.int .i64 x8',.int .i64 0,.int .i64 3] M fun v9' N9'=>
 tyS (asB v9') fun b10'=>
 A79_2 x1 b10' N9' Q) (
 A79_2 x1 false M Q)):
 A79_1 x1 x11 M Q:=
 LvP.mk (cuts:=K79) (sp:=Z79) 900 H fun G=>by kernel_rfl
theorem w79_2 {x1:Option Addr} {x16:Bool} {M:Mem} {Q:Value→Mem→Prop} (H:
 cnd x16 (
 adS x1 fun a11'=>
 onS (M.intAt .i64 a11'.block (a11'.off+3)) fun x12'=>
 Cn Try.prog 55 #[.int .i64 x12',.int .i64 0,.int .i64 3] M fun v13' N13'=>
 tyS (asB v13') fun b14'=>
 Q (.bool b14') N13') (
 Q (.bool false) M)):
 A79_2 x1 x16 M Q:=
 LvP.mk (cuts:=K79) (sp:=Z79) 900 H fun G=>by kernel_rfl
end Go.Zt

/- The functions' walks: for each function and each loop a rule of what it comes to. Printed by zw2.py. -/
set_option linter.unusedVariables false
set_option maxRecDepth 100000
namespace Go.Zt
open Go Go.Sim Go.Proofs
def tyZlA0:List Sc:=[.bool,.int .i64,.bool,.bool,.int .i64,.int .i64,.int .i64,.int .i64,.int .i64,.int .i64,.int .i64,.int .i64,.int .i64,.int .i64,.int .i64,.int .i64,.int .i64,.bool,.int .i64,.int .i64,.int .i64,.int .i64,.int .i64,.bool,.int .i64,.int .i64,.sl,.bool,.bool,.bool]
def K73:List (List It × List Nat):=[]
def Z73:List (List Nat × List Nat):=[]
theorem b73:Try.prog.funcs[73]?=some Try.f73∧(Orc.tab Try.prog).lookup 73=none∧Try.f73.body=some (codeOf Try.f73):=⟨by kernel_rfl,by kernel_rfl,by kernel_rfl⟩
theorem w73_0 {x0 x1:Option Addr} {M:Mem} {Q:Value→Mem→Prop} (H:
 ptS ((M.new (.cells #[.int .i64 0] 3)).put (2*M.nb.size) 0 (.int .i64 0)) fun M1'=>
 adS x1 fun a2'=>
 onS (M1'.boolAt a2'.block a2'.off) fun b3'=>
 cnd b3' (
 ptS (M1'.put (2*M.nb.size) 0 (.int .i64 1)) fun M4'=>
 Cn Try.prog 74 #[.pointer x0,.pointer (some ⟨2*M.nb.size,0,none⟩),.int .i64 1,.int .i64 0] M4' fun v5' N5'=>
 onS (N5'.intAt .i64 (2*M.nb.size) 0) fun x6'=>
 adS x1 fun a7'=>
 ptS (N5'.put a7'.block a7'.off (.bool (x6' == 1))) fun M8'=>
 Q (.tuple #[]) M8') (
 Cn Try.prog 74 #[.pointer x0,.pointer (some ⟨2*M.nb.size,0,none⟩),.int .i64 1,.int .i64 0] M1' fun v9' N9'=>
 onS (N9'.intAt .i64 (2*M.nb.size) 0) fun x10'=>
 adS x1 fun a11'=>
 ptS (N9'.put a11'.block a11'.off (.bool (x10' == 1))) fun M12'=>
 Q (.tuple #[]) M12')):
 Cn Try.prog 73 #[.pointer x0,.pointer x1] M Q:=
 Cn.mk (cuts:=K73) (sp:=Z73) 900 b73 rfl rfl H fun G=>by kernel_rfl
def K74:List (List It × List Nat):=[]
def Z74:List (List Nat × List Nat):=[]
theorem b74:Try.prog.funcs[74]?=some Try.f74∧(Orc.tab Try.prog).lookup 74=none∧Try.f74.body=some (codeOf Try.f74):=⟨by kernel_rfl,by kernel_rfl,by kernel_rfl⟩
theorem w74_0 {x0 x1:Option Addr} {x2 x3:Int} {M:Mem} {Q:Value→Mem→Prop} (H:
 adS x0 fun a1'=>
 onS (M.intAt .i64 a1'.block (a1'.off+2)) fun x2'=>
 cnd (x2' != 0) (
 Q (.tuple #[]) M) (
 adS x0 fun a3'=>
 onS (M.ptrAt a3'.block a3'.off) fun p4'=>
 cnd p4'.isSome (
 adS x0 fun a5'=>
 onS (M.ptrAt a5'.block a5'.off) fun p6'=>
 adS x1 fun a7'=>
 onS (M.intAt .i64 a7'.block a7'.off) fun x8'=>
 Cn Try.prog 22 #[.pointer p6',.int .u32 (IntKind.u32.wrap (IntKind.i64.wrap (x8' - x3))),.int .i64 x2] M fun v9' N9'=>
 tyS (asI .i64 v9') fun x10'=>
 adS x0 fun a11'=>
 ptS (N9'.put a11'.block (a11'.off+2) (.int .i64 x10')) fun M12'=>
 Q (.tuple #[]) M12') (
 adS x0 fun a13'=>
 onS (M.ptrAt a13'.block (a13'.off+1)) fun p14'=>
 Cn Try.prog 33 #[.pointer p14',.int .i64 x2] M fun v15' N15'=>
 tyS (asU 2 v15') fun cs16'=>
 tyS (asI .u32 (cs16'.getD 0 undef)) fun x17'=>
 tyS (asI .i64 (cs16'.getD 1 undef)) fun x18'=>
 adS x0 fun a19'=>
 ptS (N15'.put a19'.block (a19'.off+2) (.int .i64 x18')) fun M20'=>
 adS x0 fun a21'=>
 onS (M20'.intAt .i64 a21'.block (a21'.off+2)) fun x22'=>
 cnd (x22' == 0) (
 adS x1 fun a23'=>
 ptS (M20'.put a23'.block a23'.off (.int .i64 (IntKind.i64.wrap ((IntKind.i64.wrap (x17'))+x3)))) fun M24'=>
 Q (.tuple #[]) M24') (
 Q (.tuple #[]) M20')))):
 Cn Try.prog 74 #[.pointer x0,.pointer x1,.int .i64 x2,.int .i64 x3] M Q:=
 Cn.mk (cuts:=K74) (sp:=Z74) 900 b74 rfl rfl H fun G=>by kernel_rfl
def K75:List (List It × List Nat):=[([.code [1,1,0,1],.blk 0],[0,1,39]),([.code [1,1,0,1,1,1,1,1,0,1,1],.code [1,1,0,1,1,1,1,1,1],.blk 0],[0,1,5,31])]
def Z75:List (List Nat × List Nat):=[]
theorem b75:Try.prog.funcs[75]?=some Try.f75∧(Orc.tab Try.prog).lookup 75=none∧Try.f75.body=some (codeOf Try.f75):=⟨by kernel_rfl,by kernel_rfl,by kernel_rfl⟩
def A75_1 (x0 x1:Option Addr) (x39:Bool) (M:Mem) (Q:Value→Mem→Prop):Prop:=LvP Try.prog Try.f75 [(0,.pointer x0),(1,.pointer x1),(39,.bool x39)] [.code [1,1,0,1],.blk 0] M Q
def A75_2 (x0 x1:Option Addr) (x5:Int) (x31:Bool) (M:Mem) (Q:Value→Mem→Prop):Prop:=LvP Try.prog Try.f75 [(0,.pointer x0),(1,.pointer x1),(5,.int .i32 x5),(31,.bool x31)] [.code [1,1,0,1,1,1,1,1,0,1,1],.code [1,1,0,1,1,1,1,1,1],.blk 0] M Q
theorem w75_0 {x0 x1:Option Addr} {M:Mem} {Q:Value→Mem→Prop} (H:
 adS x1 fun a1'=>
 onS (M.intAt .i64 a1'.block a1'.off) fun x2'=>
 ptS ((M.new (.cells #[.bool false] 4)).put (2*M.nb.size) 0 (.bool (x2' != 0))) fun M3'=>
 Cn Try.prog 73 #[.pointer x0,.pointer (some ⟨2*M.nb.size,0,none⟩)] M3' fun v4' N4'=>
 onS (N4'.boolAt (2*M.nb.size) 0) fun b5'=>
 cnd (!b5') (
 A75_1 x0 x1 true N4' Q) (
 adS x0 fun a6'=>
 onS (N4'.intAt .i64 a6'.block (a6'.off+2)) fun x7'=>
 A75_1 x0 x1 (x7' != 0) N4' Q)):
 Cn Try.prog 75 #[.pointer x0,.pointer x1] M Q:=
 Cn.mk (cuts:=K75) (sp:=Z75) 900 b75 rfl rfl H fun G=>by kernel_rfl
theorem w75_1 {x0 x1:Option Addr} {x39:Bool} {M:Mem} {Q:Value→Mem→Prop} (H:
 cnd x39 (
 Q (.tuple #[]) M) (
 adS x0 fun a8'=>
 onS (M.ptrAt a8'.block a8'.off) fun p9'=>
 cnd p9'.isSome (
 adS x0 fun a10'=>
 onS (M.ptrAt a10'.block a10'.off) fun p11'=>
 adS x1 fun a12'=>
 onS (M.intAt .i64 a12'.block a12'.off) fun x13'=>
 Cn Try.prog 43 #[.pointer p11',.int .i32 (IntKind.i32.wrap (x13')),.int .i64 5] M fun v14' N14'=>
 tyS (asI .i64 v14') fun x15'=>
 adS x0 fun a16'=>
 ptS (N14'.put a16'.block (a16'.off+2) (.int .i64 x15')) fun M17'=>
 Q (.tuple #[]) M17') (
 adS x0 fun a18'=>
 onS (M.ptrAt a18'.block (a18'.off+1)) fun p19'=>
 Cn Try.prog 82 #[.pointer p19',.int .i64 5] M fun v20' N20'=>
 tyS (asU 2 v20') fun cs21'=>
 tyS (asI .i32 (cs21'.getD 0 undef)) fun x22'=>
 tyS (asI .i64 (cs21'.getD 1 undef)) fun x23'=>
 adS x0 fun a24'=>
 ptS (N20'.put a24'.block (a24'.off+2) (.int .i64 x23')) fun M25'=>
 adS x0 fun a26'=>
 onS (M25'.intAt .i64 a26'.block (a26'.off+2)) fun x27'=>
 cnd (x27' == 0) (
 A75_2 x0 x1 x22' (x22' == 0) M25' Q) (
 A75_2 x0 x1 x22' false M25' Q)))):
 A75_1 x0 x1 x39 M Q:=
 LvP.mk (cuts:=K75) (sp:=Z75) 900 H fun G=>by kernel_rfl
theorem w75_2 {x0 x1:Option Addr} {x5:Int} {x31:Bool} {M:Mem} {Q:Value→Mem→Prop} (H:
 cnd x31 (
 adS x0 fun a28'=>
 ptS (M.put a28'.block (a28'.off+2) (.int .i64 4)) fun M29'=>
 adS x1 fun a30'=>
 ptS (M29'.put a30'.block a30'.off (.int .i64 (IntKind.i64.wrap (x5)))) fun M31'=>
 Q (.tuple #[]) M31') (
 adS x1 fun a32'=>
 ptS (M.put a32'.block a32'.off (.int .i64 (IntKind.i64.wrap (x5)))) fun M33'=>
 Q (.tuple #[]) M33')):
 A75_2 x0 x1 x5 x31 M Q:=
 LvP.mk (cuts:=K75) (sp:=Z75) 900 H fun G=>by kernel_rfl
def K76:List (List It × List Nat):=[([.code [1,1]],[0,21])]
def Z76:List (List Nat × List Nat):=[]
theorem b76:Try.prog.funcs[76]?=some Try.f76∧(Orc.tab Try.prog).lookup 76=none∧Try.f76.body=some (codeOf Try.f76):=⟨by kernel_rfl,by kernel_rfl,by kernel_rfl⟩
def A76_1 (x0:Option Addr) (x21:Bool) (M:Mem) (Q:Value→Mem→Prop):Prop:=LvP Try.prog Try.f76 [(0,.pointer x0),(21,.bool x21)] [.code [1,1]] M Q
theorem w76_0 {x0 x1:Option Addr} {x2:Int} {M:Mem} {Q:Value→Mem→Prop} (H:
 Cn Try.prog 74 #[.pointer x0,.pointer x1,.int .i64 2,.int .i64 0] M fun v1' N1'=>
 adS x0 fun a2'=>
 onS (N1'.intAt .i64 a2'.block (a2'.off+2)) fun x3'=>
 cnd (x3' == 0) (
 adS x1 fun a4'=>
 onS (N1'.intAt .i64 a4'.block a4'.off) fun x5'=>
 Cn Try.prog 57 #[.int .i64 x5',.int .i64 x2] N1' fun v6' N6'=>
 tyS (asB v6') fun b7'=>
 A76_1 x0 (!b7') N6' Q) (
 A76_1 x0 false N1' Q)):
 Cn Try.prog 76 #[.pointer x0,.pointer x1,.int .i64 x2] M Q:=
 Cn.mk (cuts:=K76) (sp:=Z76) 900 b76 rfl rfl H fun G=>by kernel_rfl
theorem w76_1 {x0:Option Addr} {x21:Bool} {M:Mem} {Q:Value→Mem→Prop} (H:
 cnd x21 (
 adS x0 fun a8'=>
 ptS (M.put a8'.block (a8'.off+2) (.int .i64 5)) fun M9'=>
 Q (.tuple #[]) M9') (
 Q (.tuple #[]) M)):
 A76_1 x0 x21 M Q:=
 LvP.mk (cuts:=K76) (sp:=Z76) 900 H fun G=>by kernel_rfl
def K57:List (List It × List Nat):=[]
def Z57:List (List Nat × List Nat):=[]
theorem b57:Try.prog.funcs[57]?=some Try.f57∧(Orc.tab Try.prog).lookup 57=none∧Try.f57.body=some (codeOf Try.f57):=⟨by kernel_rfl,by kernel_rfl,by kernel_rfl⟩
theorem w57_0 {x0 x1:Int} {M:Mem} {Q:Value→Mem→Prop} (H:
 Cn Try.prog 55 #[.int .i64 x0,.int .i64 0,.int .i64 2] M fun v1' N1'=>
 tyS (asB v1') fun b2'=>
 cnd b2' (
 puS (binV Try.prog .shl 3 3 (.int .i64 1) (.int .i64 x0)) fun v3'=>
 tyS (asI .i64 v3') fun x4'=>
 Q (.bool (decide (x4'≤(IntKind.i64.wrap ((IntKind.i64.wrap ((IntKind.i64.wrap (x1+64)) - 1)).tdiv 64))))) N1') (
 Q (.bool false) N1')):
 Cn Try.prog 57 #[.int .i64 x0,.int .i64 x1] M Q:=
 Cn.mk (cuts:=K57) (sp:=Z57) 900 b57 rfl rfl H fun G=>by kernel_rfl
def K77:List (List It × List Nat):=[]
def Z77:List (List Nat × List Nat):=[]
theorem b77:Try.prog.funcs[77]?=some Try.f77∧(Orc.tab Try.prog).lookup 77=none∧Try.f77.body=some (codeOf Try.f77):=⟨by kernel_rfl,by kernel_rfl,by kernel_rfl⟩
theorem w77_0 {x0:Array Value} {M:Mem} {Q:Value→Mem→Prop} (H:
 onS ((M.new (.cells x0 41)).intAt .i64 (2*M.nb.size) (0+9)) fun x1'=>
 cnd (x1' == 0) (
 onS ((M.new (.cells x0 41)).intAt .i64 (2*M.nb.size) (0+10)) fun x2'=>
 onS ((M.new (.cells x0 41)).intAt .i64 (2*M.nb.size) (0+11)) fun x3'=>
 onS ((M.new (.cells x0 41)).intAt .i64 (2*M.nb.size) (0+12)) fun x4'=>
 onS ((M.new (.cells x0 41)).intAt .i64 (2*M.nb.size) (0+13)) fun x5'=>
 onS ((M.new (.cells x0 41)).intAt .i64 (2*M.nb.size) (0+14)) fun x6'=>
 puS (binV Try.prog .eql 36 36 (.agg #[.int .i64 x2',.int .i64 x3',.int .i64 x4',.int .i64 x5',.int .i64 x6']) (.agg #[.int .i64 0,.int .i64 0,.int .i64 0,.int .i64 0,.int .i64 0])) fun v7'=>
 tyS (asB v7') fun b8'=>
 Q (.bool b8') (M.new (.cells x0 41))) (
 Q (.bool false) (M.new (.cells x0 41)))):
 Cn Try.prog 77 #[.agg x0] M Q:=
 Cn.mk (cuts:=K77) (sp:=Z77) 900 b77 rfl rfl H fun G=>by kernel_rfl
def K78:List (List It × List Nat):=[([.code [0,1,0,0],.lp [0,1,0,0],.blk 0,.code [1]],[0,1,8]),([.code [1,1,1,0,1],.code [1,1,1,1]],[0,1,39]),([.code [1,1,1,0,1,0,1,1,0,1],.code [1,1,1,0,1,0,1,1,1],.code [1,1,1,1]],[0,1,61]),([.code [1,1,1,1,1,0,0],.lp [1,1,1,1,1,0,0],.blk 4],[0,1,106]),([.code [1,1,1,0,1,0,1,1,1,1,0,0],.lp [1,1,1,0,1,0,1,1,1,1,0,0],.blk 2,.code [1,1,1,1]],[0,1,75,76])]
def Z78:List (List Nat × List Nat):=[]
theorem b78:Try.prog.funcs[78]?=some Try.f78∧(Orc.tab Try.prog).lookup 78=none∧Try.f78.body=some (codeOf Try.f78):=⟨by kernel_rfl,by kernel_rfl,by kernel_rfl⟩
def A78_1 (x0 x1:Option Addr) (x8:Int) (M:Mem) (Q:Value→Mem→Prop):Prop:=LvP Try.prog Try.f78 [(0,.pointer x0),(1,.pointer x1),(8,.int .i64 x8)] [.code [0,1,0,0],.lp [0,1,0,0],.blk 0,.code [1]] M Q
def A78_2 (x0 x1:Option Addr) (x39:Bool) (M:Mem) (Q:Value→Mem→Prop):Prop:=LvP Try.prog Try.f78 [(0,.pointer x0),(1,.pointer x1),(39,.bool x39)] [.code [1,1,1,0,1],.code [1,1,1,1]] M Q
def A78_3 (x0 x1:Option Addr) (x61:Bool) (M:Mem) (Q:Value→Mem→Prop):Prop:=LvP Try.prog Try.f78 [(0,.pointer x0),(1,.pointer x1),(61,.bool x61)] [.code [1,1,1,0,1,0,1,1,0,1],.code [1,1,1,0,1,0,1,1,1],.code [1,1,1,1]] M Q
def A78_4 (x0 x1:Option Addr) (x106:Int) (M:Mem) (Q:Value→Mem→Prop):Prop:=LvP Try.prog Try.f78 [(0,.pointer x0),(1,.pointer x1),(106,.int .i64 x106)] [.code [1,1,1,1,1,0,0],.lp [1,1,1,1,1,0,0],.blk 4] M Q
def A78_5 (x0 x1:Option Addr) (x75 x76:Int) (M:Mem) (Q:Value→Mem→Prop):Prop:=LvP Try.prog Try.f78 [(0,.pointer x0),(1,.pointer x1),(75,.int .i64 x75),(76,.int .i64 x76)] [.code [1,1,1,0,1,0,1,1,1,1,0,0],.lp [1,1,1,0,1,0,1,1,1,1,0,0],.blk 2,.code [1,1,1,1]] M Q
theorem w78_0 {x0 x1:Option Addr} {M:Mem} {Q:Value→Mem→Prop} (H:
 A78_1 x0 x1 0 M Q):
 Cn Try.prog 78 #[.pointer x0,.pointer x1] M Q:=
 Cn.mk (cuts:=K78) (sp:=Z78) 900 b78 rfl rfl H fun G=>by kernel_rfl
theorem w78_1 {x0 x1:Option Addr} {x8:Int} {M:Mem} {Q:Value→Mem→Prop} (H:
 cnd (decide (x8<4)) (
 adS x1 fun a1'=>
 ixS (idxA (some ⟨a1'.block,a1'.off+18,none⟩) 4 1 x8) fun a2'=>
 Cn Try.prog 74 #[.pointer x0,.pointer (some a2'),.int .i64 6,.int .i64 0] M fun v3' N3'=>
 A78_1 x0 x1 (IntKind.i64.wrap (x8+1)) N3' Q) (
 adS x1 fun a4'=>
 Cn Try.prog 74 #[.pointer x0,.pointer (some ⟨a4'.block,a4'.off+22,none⟩),.int .i64 3,.int .i64 0] M fun v5' N5'=>
 adS x1 fun a6'=>
 Cn Try.prog 73 #[.pointer x0,.pointer (some ⟨a6'.block,a6'.off+23,none⟩)] N5' fun v7' N7'=>
 adS x1 fun a8'=>
 onS (N7'.boolAt a8'.block (a8'.off+23)) fun b9'=>
 cnd b9' (
 adS x0 fun a10'=>
 onS (N7'.intAt .i64 a10'.block (a10'.off+2)) fun x11'=>
 A78_2 x0 x1 (x11' == 0) N7' Q) (
 A78_2 x0 x1 false N7' Q))):
 A78_1 x0 x1 x8 M Q:=
 LvP.mk (cuts:=K78) (sp:=Z78) 900 H fun G=>by kernel_rfl
theorem w78_2 {x0 x1:Option Addr} {x39:Bool} {M:Mem} {Q:Value→Mem→Prop} (H:
 cnd x39 (
 adS x1 fun a12'=>
 Cn Try.prog 74 #[.pointer x0,.pointer (some ⟨a12'.block,a12'.off+24,none⟩),.int .i64 2,.int .i64 3] M fun v13' N13'=>
 adS x1 fun a14'=>
 Cn Try.prog 74 #[.pointer x0,.pointer (some ⟨a14'.block,a14'.off+25,none⟩),.int .i64 2,.int .i64 0] N13' fun v15' N15'=>
 adS x0 fun a16'=>
 onS (N15'.ptrAt a16'.block a16'.off) fun p17'=>
 cnd p17'.isNone (
 adS x0 fun a18'=>
 onS (N15'.intAt .i64 a18'.block (a18'.off+2)) fun x19'=>
 A78_3 x0 x1 (x19' == 0) N15' Q) (
 A78_3 x0 x1 false N15' Q)) (
 A78_4 x0 x1 0 M Q)):
 A78_2 x0 x1 x39 M Q:=
 LvP.mk (cuts:=K78) (sp:=Z78) 900 H fun G=>by kernel_rfl
theorem w78_3 {x0 x1:Option Addr} {x61:Bool} {M:Mem} {Q:Value→Mem→Prop} (H:
 cnd x61 (
 adS x1 fun a20'=>
 onS (M.intAt .i64 a20'.block (a20'.off+25)) fun x21'=>
 puS (binV Try.prog .shl 3 3 (.int .i64 1) (.int .i64 x21')) fun v22'=>
 tyS (asI .i64 v22') fun x23'=>
 meS (makeP Try.prog 38 (.int .i64 x23') (.int .i64 x23') M) fun r24'=>
 tyS (asS r24'.1) fun s25'=>
 adS x1 fun a26'=>
 ptS (r24'.2.put a26'.block (a26'.off+26) (.slice s25'.1 (s25'.2.1) (s25'.2.2))) fun M27'=>
 adS x1 fun a28'=>
 onS (M27'.slAt a28'.block (a28'.off+26)) fun s29'=>
 A78_5 x0 x1 (s29'.2.1:Int) 0 M27' Q) (
 adS x1 fun a30'=>
 onS (M.slAt a30'.block (a30'.off+26)) fun s31'=>
 A78_5 x0 x1 (s31'.2.1:Int) 0 M Q)):
 A78_3 x0 x1 x61 M Q:=
 LvP.mk (cuts:=K78) (sp:=Z78) 900 H fun G=>by kernel_rfl
theorem w78_4 {x0 x1:Option Addr} {x106:Int} {M:Mem} {Q:Value→Mem→Prop} (H:
 cnd (decide (x106<3)) (
 adS x1 fun a32'=>
 ixS (idxA (some ⟨a32'.block,a32'.off+27,none⟩) 3 1 x106) fun a33'=>
 Cn Try.prog 73 #[.pointer x0,.pointer (some a33')] M fun v34' N34'=>
 A78_4 x0 x1 (IntKind.i64.wrap (x106+1)) N34' Q) (
 Q (.tuple #[]) M)):
 A78_4 x0 x1 x106 M Q:=
 LvP.mk (cuts:=K78) (sp:=Z78) 900 H fun G=>by kernel_rfl
theorem w78_5 {x0 x1:Option Addr} {x75 x76:Int} {M:Mem} {Q:Value→Mem→Prop} (H:
 cnd (decide (x76<x75)) (
 adS x1 fun a35'=>
 onS (M.slAt a35'.block (a35'.off+26)) fun s36'=>
 ixS (idxA s36'.1 (s36'.2.1) 4 x76) fun a37'=>
 Cn Try.prog 74 #[.pointer x0,.pointer (some ⟨a37'.block,a37'.off,none⟩),.int .i64 4,.int .i64 0] M fun v38' N38'=>
 Cn Try.prog 74 #[.pointer x0,.pointer (some ⟨a37'.block,a37'.off+1,none⟩),.int .i64 2,.int .i64 0] N38' fun v39' N39'=>
 Cn Try.prog 74 #[.pointer x0,.pointer (some ⟨a37'.block,a37'.off+2,none⟩),.int .i64 4,.int .i64 0] N39' fun v40' N40'=>
 Cn Try.prog 74 #[.pointer x0,.pointer (some ⟨a37'.block,a37'.off+3,none⟩),.int .i64 2,.int .i64 0] N40' fun v41' N41'=>
 A78_5 x0 x1 x75 (IntKind.i64.wrap (x76+1)) N41' Q) (
 A78_4 x0 x1 0 M Q)):
 A78_5 x0 x1 x75 x76 M Q:=
 LvP.mk (cuts:=K78) (sp:=Z78) 900 H fun G=>by kernel_rfl
def K50:List (List It × List Nat):=[([.code [1,1,1,1,1,1,1,1,1,1,0,1,0,0],.lp [1,1,1,1,1,1,1,1,1,1,0,1,0,0],.blk 2,.code [1,1,1,1,1,1,1,1,1,1,1]],[0,1,5,74]),([.code [1,1,1,1,1,1,1,0,1,1,0,1,0,0],.lp [1,1,1,1,1,1,1,0,1,1,0,1,0,0],.blk 0,.code [1,1,1,1,1,1,1,0,1,1,1],.code [1,1,1,1,1,1,1,1]],[0,1,5,6,47])]
def Z50:List (List Nat × List Nat):=[]
theorem b50:Try.prog.funcs[50]?=some Try.f50∧(Orc.tab Try.prog).lookup 50=none∧Try.f50.body=some (codeOf Try.f50):=⟨by kernel_rfl,by kernel_rfl,by kernel_rfl⟩
def A50_1 (x0 x1 x5:Option Addr) (x74:Int) (M:Mem) (Q:Value→Mem→Prop):Prop:=LvP Try.prog Try.f50 [(0,.pointer x0),(1,.pointer x1),(5,.pointer x5),(74,.int .i64 x74)] [.code [1,1,1,1,1,1,1,1,1,1,0,1,0,0],.lp [1,1,1,1,1,1,1,1,1,1,0,1,0,0],.blk 2,.code [1,1,1,1,1,1,1,1,1,1,1]] M Q
def A50_2 (x0 x1 x5 x6:Option Addr) (x47:Int) (M:Mem) (Q:Value→Mem→Prop):Prop:=LvP Try.prog Try.f50 [(0,.pointer x0),(1,.pointer x1),(5,.pointer x5),(6,.pointer x6),(47,.int .i64 x47)] [.code [1,1,1,1,1,1,1,0,1,1,0,1,0,0],.lp [1,1,1,1,1,1,1,0,1,1,0,1,0,0],.blk 0,.code [1,1,1,1,1,1,1,0,1,1,1],.code [1,1,1,1,1,1,1,1]] M Q
theorem w50_0 {x0 x1:Option Addr} {x2_0 x2_1:Int} {M:Mem} {Q:Value→Mem→Prop} (H:
 adS x1 fun a1'=>
 Cn Try.prog 73 #[.pointer x0,.pointer (some ⟨a1'.block,a1'.off,none⟩)] (M.new (.cells #[.int .i64 x2_0,.int .i64 x2_1] 23)) fun v2' N2'=>
 adS x1 fun a3'=>
 onS (N2'.boolAt a3'.block a3'.off) fun b4'=>
 cnd b4' (
 adS x1 fun a5'=>
 Cn Try.prog 74 #[.pointer x0,.pointer (some ⟨a5'.block,a5'.off+1,none⟩),.int .i64 3,.int .i64 0] N2' fun v6' N6'=>
 Q (.tuple #[]) N6') (
 adS x1 fun a7'=>
 Cn Try.prog 73 #[.pointer x0,.pointer (some ⟨a7'.block,a7'.off+2,none⟩)] N2' fun v8' N8'=>
 adS x1 fun a9'=>
 Cn Try.prog 73 #[.pointer x0,.pointer (some ⟨a9'.block,a9'.off+3,none⟩)] N8' fun v10' N10'=>
 adS x1 fun a11'=>
 Cn Try.prog 74 #[.pointer x0,.pointer (some ⟨a11'.block,a11'.off+4,none⟩),.int .i64 8,.int .i64 0] N10' fun v12' N12'=>
 adS x1 fun a13'=>
 onS (N12'.intAt .i64 a13'.block (a13'.off+8)) fun x14'=>
 ptS ((N12'.new (.cells #[.bool false] 4)).put (2*N12'.nb.size) 0 (.bool (decide (x14' ≥ 0)))) fun M15'=>
 adS x1 fun a16'=>
 onS (M15'.boolAt a16'.block (a16'.off+3)) fun b17'=>
 cnd b17' (
 ptS (M15'.put (2*N12'.nb.size) 0 (.bool false)) fun M18'=>
 onS (M18'.boolAt (2*N12'.nb.size) 0) fun b19'=>
 cnd b19' (
 adS x1 fun a20'=>
 Cn Try.prog 74 #[.pointer x0,.pointer (some ⟨a20'.block,a20'.off+8,none⟩),.int .i64 3,.int .i64 0] M18' fun v21' N21'=>
 adS x1 fun a22'=>
 Cn Try.prog 74 #[.pointer x0,.pointer (some ⟨a22'.block,a22'.off+9,none⟩),.int .i64 8,.int .i64 0] N21' fun v23' N23'=>
 A50_1 x0 x1 (some ⟨2*M.nb.size,0,none⟩) 0 N23' Q) (
 adS x1 fun a24'=>
 ptS (M18'.put a24'.block (a24'.off+8) (.int .i64 (-1))) fun M25'=>
 adS x1 fun a26'=>
 Cn Try.prog 74 #[.pointer x0,.pointer (some ⟨a26'.block,a26'.off+9,none⟩),.int .i64 8,.int .i64 0] M25' fun v27' N27'=>
 A50_1 x0 x1 (some ⟨2*M.nb.size,0,none⟩) 0 N27' Q)) (
 A50_2 x0 x1 (some ⟨2*M.nb.size,0,none⟩) (some ⟨2*N12'.nb.size,0,none⟩) 0 M15' Q))):
 Cn Try.prog 50 #[.pointer x0,.pointer x1,.agg #[.int .i64 x2_0,.int .i64 x2_1]] M Q:=
 Cn.mk (cuts:=K50) (sp:=Z50) 900 b50 rfl rfl H fun G=>by kernel_rfl
theorem w50_1 {x0 x1 x5:Option Addr} {x74:Int} {M:Mem} {Q:Value→Mem→Prop} (H:
 cnd (decide (x74<5)) (
 adS x1 fun a28'=>
 ixS (idxA (some ⟨a28'.block,a28'.off+10,none⟩) 5 1 x74) fun a29'=>
 Cn Try.prog 75 #[.pointer x0,.pointer (some a29')] M fun v30' N30'=>
 A50_1 x0 x1 x5 (IntKind.i64.wrap (x74+1)) N30' Q) (
 adS x1 fun a31'=>
 adS x5 fun a32'=>
 onS (M.intAt .i64 a32'.block a32'.off) fun x33'=>
 Cn Try.prog 76 #[.pointer x0,.pointer (some ⟨a31'.block,a31'.off+15,none⟩),.int .i64 x33'] M fun v34' N34'=>
 adS x1 fun a35'=>
 adS x5 fun a36'=>
 onS (N34'.intAt .i64 a36'.block (a36'.off+1)) fun x37'=>
 Cn Try.prog 76 #[.pointer x0,.pointer (some ⟨a35'.block,a35'.off+16,none⟩),.int .i64 x37'] N34' fun v38' N38'=>
 adS x1 fun a39'=>
 Cn Try.prog 73 #[.pointer x0,.pointer (some ⟨a39'.block,a39'.off+17,none⟩)] N38' fun v40' N40'=>
 adS x1 fun a41'=>
 ldP tyZlA0 N40' a41'.block a41'.off fun vs42'=>
 Cn Try.prog 77 #[.agg vs42'.toArray] N40' fun v43' N43'=>
 tyS (asB v43') fun b44'=>
 cnd (!b44') (
 Cn Try.prog 78 #[.pointer x0,.pointer x1] N43' fun v45' N45'=>
 Q (.tuple #[]) N45') (
 Q (.tuple #[]) N43'))):
 A50_1 x0 x1 x5 x74 M Q:=
 LvP.mk (cuts:=K50) (sp:=Z50) 900 H fun G=>by kernel_rfl
theorem w50_2 {x0 x1 x5 x6:Option Addr} {x47:Int} {M:Mem} {Q:Value→Mem→Prop} (H:
 cnd (decide (x47<3)) (
 adS x1 fun a46'=>
 ixS (idxA (some ⟨a46'.block,a46'.off+5,none⟩) 3 1 x47) fun a47'=>
 Cn Try.prog 74 #[.pointer x0,.pointer (some a47'),.int .i64 3,.int .i64 0] M fun v48' N48'=>
 A50_2 x0 x1 x5 x6 (IntKind.i64.wrap (x47+1)) N48' Q) (
 Cn Try.prog 73 #[.pointer x0,.pointer x6] M fun v49' N49'=>
 adS x6 fun a50'=>
 onS (N49'.boolAt a50'.block a50'.off) fun b51'=>
 cnd b51' (
 adS x1 fun a52'=>
 Cn Try.prog 74 #[.pointer x0,.pointer (some ⟨a52'.block,a52'.off+8,none⟩),.int .i64 3,.int .i64 0] N49' fun v53' N53'=>
 adS x1 fun a54'=>
 Cn Try.prog 74 #[.pointer x0,.pointer (some ⟨a54'.block,a54'.off+9,none⟩),.int .i64 8,.int .i64 0] N53' fun v55' N55'=>
 A50_1 x0 x1 x5 0 N55' Q) (
 adS x1 fun a56'=>
 ptS (N49'.put a56'.block (a56'.off+8) (.int .i64 (-1))) fun M57'=>
 adS x1 fun a58'=>
 Cn Try.prog 74 #[.pointer x0,.pointer (some ⟨a58'.block,a58'.off+9,none⟩),.int .i64 8,.int .i64 0] M57' fun v59' N59'=>
 A50_1 x0 x1 x5 0 N59' Q))):
 A50_2 x0 x1 x5 x6 x47 M Q:=
 LvP.mk (cuts:=K50) (sp:=Z50) 900 H fun G=>by kernel_rfl
end Go.Zt
