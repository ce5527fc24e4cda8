/- Layer 20: HeadsReads: the document's filters and Read. -/
import Derived.Test.YtgepgbblmodagaaZmA
import Derived.Test.YtgepgbblmodagaaProg
import Derived.Test.YtgepgbblmodagaaZkA
import Derived.Test.YtgepgbblmodagaaZqT
set_option linter.unusedSimpArgs false
set_option linter.unusedVariables false
set_option maxRecDepth 100000
namespace Go.Zt
open Go Go.Sim Go.Proofs Go.RowKit
def sg1R (b:List Nat) (p e:Nat):Nat × Nat × Sg:=
  let g1:=getR b p e 4
  let g2:=getR b g1.1 g1.2.1 2
  let g3:=getR b g2.1 g2.2.1 4
  let g4:=getR b g3.1 g3.2.1 2
  (g4.1,g4.2.1,⟨(g1.2.2:Nat),(g2.2.2:Nat),(g3.2.2:Nat),(g4.2.2:Nat)⟩)
def sgsR (b:List Nat):Nat→Nat→Nat→Nat × Nat × List Sg
  | 0,p,e=>(p,e,[])
  | n+1,p,e=>((sgsR b n (sg1R b p e).1 (sg1R b p e).2.1).1,(sgsR b n (sg1R b p e).1 (sg1R b p e).2.1).2.1,(sg1R b p e).2.2::(sgsR b n (sg1R b p e).1 (sg1R b p e).2.1).2.2)
theorem sgsR_len (b:List Nat):∀ n p e,(sgsR b n p e).2.2.length=n
  | 0,_,_=>rfl
  | n+1,p,e=>by simp only [sgsR,List.length_cons,sgsR_len b n]
def StrR (b:List Nat) (r0 r:RS) (X:List Sg):Prop:=
  ∃ r1,r1=gI b r0 2 3 (fun x=>{ r0.2.2 with da:=x })∧∃ r2,r2=gI b r1 2 0 (fun x=>{ r1.2.2 with cb:=x })∧
  (∃ A c,r=((sgsR b (2 ^ r2.2.2.cb.toNat) r2.1 r2.2.1).1,(sgsR b (2 ^ r2.2.2.cb.toNat) r2.1 r2.2.1).2.1,{ r2.2.2 with A:=A,n:=2 ^ r2.2.2.cb.toNat,c:=c }))∧X=(sgsR b (2 ^ r2.2.2.cb.toNat) r2.1 r2.2.1).2.2
def FiltR (b:List Nat) (r0 r:RS) (X:List Sg):Prop:=
  ∃ r1,r1=gI b r0 6 0 (fun x=>{ r0.2.2 with l0:=x })∧∃ r2,r2=gI b r1 6 0 (fun x=>{ r1.2.2 with l1:=x })∧
  ∃ r3,r3=gI b r2 6 0 (fun x=>{ r2.2.2 with l2:=x })∧∃ r4,r4=gI b r3 6 0 (fun x=>{ r3.2.2 with l3:=x })∧
  ∃ r5,r5=gI b r4 3 0 (fun x=>{ r4.2.2 with sp:=x })∧∃ r6,r6=gB b r5 (fun x=>{ r5.2.2 with cd:=x })∧
  ∃ r7,(if r6.2.2.cd=true then StrR b r6 r7 X else r7=r6∧X=[])∧
  ∃ r8,r8=gB b r7 (fun x=>{ r7.2.2 with x0:=x })∧∃ r9,r9=gB b r8 (fun x=>{ r8.2.2 with x1:=x })∧r=gB b r9 (fun x=>{ r9.2.2 with x2:=x })
section
variable {S:Nat→Prop} {M N M0:Mem} {jr jq jh ja jb js lo:Nat} {b:List Nat} {r:RS}
theorem iK0 {Q:Mem→Prop} {P:Int→Mem→Prop} (E:Ch jr jq jh lo M0 M) (R:Rm S M jr jq jh b r) {n:Int} (h0:0≤n) (h1:n≤8) {o:Nat} (s:Int→Hd) (ho:o<30) (hs:∀ x,(s x).cs=r.2.2.cs.setIfInBounds o (.int .i64 x))
    (hP:∀ x N,ptS (N.put (2*jh) o (.int .i64 x)) Q→P x N) (K:∀ N r',r'=gI b r n 0 s→Ch jr jq jh lo M0 N→Rm S N jr jq jh b r'→Q N):Cn Try.prog 68 #[PtrB jr,.int .i64 n] M fun v N=>tyS (asI .i64 v) fun x=>P x N:=
  iK E R h0 h1 s 0 (fun x=>x) (fun x _ _=>(Int.add_zero x).symm) ho hs hP K
theorem sK {Q:Mem→Prop} {P:Int→Mem→Prop} {cs:Array Value} (R:Rm S M jr jq jh b r) (hj:M.nb[js]?=some (.cells cs 96)) (d:js≠jr∧js≠jq∧js≠jh∧¬ S js) (hf:M.floor≤js) {n:Int} (h0:0≤n) (h1:n≤8) {o:Nat} (ho:o<cs.size)
    (hP:∀ x N,ptS (N.put (2*js) o (.int .i64 x)) Q→P x N) (K:∀ N,Chg (fun i=>i=jr∨i=jq∨i=js) M N→N.nb.size=M.nb.size→Rm S N jr jq jh b ((getR b r.1 r.2.1 n).1,(getR b r.1 r.2.1 n).2.1,r.2.2)→N.nb[js]?=some (.cells (cs.setIfInBounds o (.int .i64 ((getR b r.1 r.2.1 n).2.2:Nat))) 96)→Q N):
    Cn Try.prog 68 #[PtrB jr,.int .i64 n] M fun v N=>tyS (asI .i64 v) fun x=>P x N:=by
  refine Cn.mono (c68 R h0 h1) ?_
  rintro _ N1 ⟨rfl,C1,z1,R1⟩
  have j1:=at_chg hj C1 fun h=>h.elim d.1 d.2.1
  obtain ⟨N2,p2,C2,z2,u2⟩:=put1 o (.int .i64 ((getR b r.1 r.2.1 n).2.2:Nat)) j1 (by rw [C1.floor]; exact hf) ho rfl
  exact ty rfl (hP _ _ (pt p2 (K N2 ((C1.mono fun i _ h=>h.imp id .inl).trans (C2.mono fun i _ h=>.inr (.inr h))) (by rw [z2,z1]) (R1.chg C2 (fun h=>d.1 h.symm) (fun h=>d.2.1 h.symm) (fun h=>d.2.2.1 h.symm) fun i hi h=>d.2.2.2 (h ▸ hi)) u2)))
theorem e71_3 {Q:Value→Mem→Prop} {zz:Array Value} (zs:zz.size=30) (nb:jb≠jr∧jb≠jq∧jb≠ja) (sb:¬ S jb) (hb:M.nb[jb]?=some (.cells zz 41)) (fb0:M.floor≤jb) (R:Rm S M jr jq ja b r)
    (K:∀ N r8 r9 r',r8=gB b r (fun x=>{ r.2.2 with x0:=x })→r9=gB b r8 (fun x=>{ r8.2.2 with x1:=x })→r'=gB b r9 (fun x=>{ r9.2.2 with x2:=x })→Chg (fun i=>((i=jr∨i=jq∨i=ja)∨M.nb.size≤i)∨i=jb) M N→RefR S N jq b r'.1→N.nb[jr]?=some (.cells #[PtrB jq,.int .i64 (r'.2.1:Nat)] 109)→Q (.agg r'.2.2.cs) N):
    A71_3 (some ⟨2*jr,0,none⟩) (some ⟨2*ja,0,none⟩) (some ⟨2*jb,0,none⟩) 0 M Q:=by
  have lb:=lt_of_at hb
  refine w71_3 (cT (by decide) (bK (lo:=M.nb.size) (.refl M) R (o:=27) (fun x=>{ r.2.2 with x0:=x }) (by decide) (fun _=>rfl) (fun _ _ h=>ad rfl (ix (x:=⟨2*ja,27,none⟩) (by kernel_rfl) h)) fun N1 r8 h8 E1 R1=>?_))
  refine w71_3 (cT (by decide) (bK E1 R1 (o:=28) (fun x=>{ r8.2.2 with x1:=x }) (by decide) (fun _=>rfl) (fun _ _ h=>ad rfl (ix (x:=⟨2*ja,28,none⟩) (by kernel_rfl) h)) fun N2 r9 h9 E2 R2=>?_))
  refine w71_3 (cT (by decide) (bK E2 R2 (o:=29) (fun x=>{ r9.2.2 with x2:=x }) (by decide) (fun _=>rfl) (fun _ _ h=>ad rfl (ix (x:=⟨2*ja,29,none⟩) (by kernel_rfl) h)) fun N3 r' h' E3 R3=>?_))
  have b3:=at_chg hb E3 fun h=>by omega
  refine w71_3 (cF (by decide) (ad rfl (ldA R3.hd rfl (ad rfl (stA b3 (by rw [E3.floor]; exact fb0) rfl (by rw [zs]; rfl) rfl fun N4 C4 n4 b4=>ad rfl (ldA b4 rfl ?_))))))
  exact K N4 r8 r9 r' h8 h9 h' ((E3.mono fun i _ h=>.inl h).trans (C4.mono fun i _ h=>.inr h)) (R3.rd.chg C4 (fun h=>nb.2.1 h.symm) fun i hi h=>sb (h ▸ hi)) (at_chg R3.cod C4 fun h=>nb.1 h.symm)
theorem e71_2 {Q:Value→Mem→Prop}:∀ (q i:Nat) {M:Mem} {r:RS} {X:List Sg},i+q=2 ^ r.2.2.cb.toNat→(0≤r.2.2.cb∧r.2.2.cb<4)→r.2.2.n=X.length→X.length+q≤16→Own (fun j=>lo≤j) M 96 r.2.2.A (r.2.2.c*4) (Sgs X)→Ch jr jq ja lo M0 M→Rm S M jr jq ja b r→lo≤M.nb.size→(jr<lo∧jq<lo∧ja<lo)→M.floor≤lo→
    (∀ N A c,Ch jr jq ja lo M0 N→Rm S N jr jq ja b ((sgsR b q r.1 r.2.1).1,(sgsR b q r.1 r.2.1).2.1,{ r.2.2 with A:=A,n:=X.length+q,c:=c })→Own (fun j=>lo≤j) N 96 A (c*4) (Sgs (X ++ (sgsR b q r.1 r.2.1).2.2))→lo≤N.nb.size→A71_3 (some ⟨2*jr,0,none⟩) (some ⟨2*ja,0,none⟩) (some ⟨2*jb,0,none⟩) 0 N Q)→
    A71_2 (some ⟨2*jr,0,none⟩) (some ⟨2*ja,0,none⟩) (some ⟨2*jb,0,none⟩) (i:Int) M Q
  | q,i,M,r,X,hi,hc,hn,hX,hO,E,R,hs,hl,hf,K=>by
    have pw:(1:Int)*2 ^ r.2.2.cb.toNat=((2 ^ r.2.2.cb.toNat:Nat):Int):=by rw [Int.one_mul]; norm_cast
    have pb:2 ^ r.2.2.cb.toNat≤2 ^ 3:=Nat.pow_le_pow_right (by decide) (by omega)
    refine w71_2 (ad rfl (on (int_of R.hd rfl) (pu (shl_i64 (q:=r.2.2.cb.toNat) (by omega) (by rw [pw]; omega) (by omega)) (ty rfl ?_))))
    rw [pw]
    match q,hi,hX,K with
    | 0,hi,hX,K=>
      refine cF (by simp; omega) ?_
      have e:({ r.2.2 with A:=r.2.2.A,n:=X.length+0,c:=r.2.2.c }:Hd)=r.2.2:=by rw [Nat.add_zero,← hn]
      exact K M r.2.2.A r.2.2.c E (by rw [e]; exact R) (by simpa [sgsR] using hO) hs
    | q+1,hi,hX,K=>
      have a:=Mem.new_at M (.cells #[.int .i64 0,.int .i64 0,.int .i64 0,.int .i64 0] 96)
      have K0:Keep M (M.new (.cells #[.int .i64 0,.int .i64 0,.int .i64 0,.int .i64 0] 96)):=.new _ _
      have s0:=Mem.new_size M (.cells #[.int .i64 0,.int .i64 0,.int .i64 0,.int .i64 0] 96)
      refine cT (by simp; omega) ?_
      generalize M.new (.cells #[.int .i64 0,.int .i64 0,.int .i64 0,.int .i64 0] 96)=M1 at a K0 s0 ⊢
      have R1:=R.keep K0
      have nS:¬ S M.nb.size:=fun h=>by have:=R.su _ h; omega
      have d:M.nb.size≠jr∧M.nb.size≠jq∧M.nb.size≠ja∧¬ S M.nb.size:=⟨by omega,by omega,by omega,nS⟩
      have O1:Own (fun j=>lo≤j∧j<M.nb.size) M1 96 r.2.2.A (r.2.2.c*4) (Sgs X):=(hO.mono (T:=fun j=>lo≤j∧j<M.nb.size) fun j hj h=>⟨h,hj⟩).chg K0 fun _ _ _ h=>h
      have f1:M1.floor≤M.nb.size:=by rw [K0.floor]; exact R.fs
      refine sK R1 a d f1 (by decide) (by decide) (by decide) (fun _ _ h=>h) fun N1 C1 z1 R2 a1=>?_
      refine sK R2 a1 d (by rw [C1.floor]; exact f1) (by decide) (by decide) (by show 1<4; decide) (fun _ _ h=>h) fun N2 C2 z2 R3 a2=>?_
      refine sK R3 a2 d (by rw [C2.floor,C1.floor]; exact f1) (by decide) (by decide) (by show 2<4; decide) (fun _ _ h=>h) fun N3 C3 z3 R4 a3=>?_
      refine sK R4 a3 d (by rw [C3.floor,C2.floor,C1.floor]; exact f1) (by decide) (by decide) (by show 3<4; decide) (fun _ _ h=>h) fun N4 C4 z4 R5 a4=>?_
      have C14:=((C1.trans C2).trans C3).trans C4
      have z14:N4.nb.size=M.nb.size+1:=by rw [z4,z3,z2,z1,s0]
      have O4:Own (fun j=>lo≤j∧j<M.nb.size) N4 96 r.2.2.A (r.2.2.c*4) (Sgs X):=O1.chg C14 fun j _ hj h=>by omega
      refine ad rfl (on (sl_of R5.hd rfl) (on (int_of (i:=0) a4 rfl) (on (int_of (i:=0+1) a4 rfl) (on (int_of (i:=0+2) a4 rfl) (on (int_of (i:=0+3) a4 rfl) ?_)))))
      have E4:Ch jr jq ja lo M0 N4:=(E.trans (K0.mono fun i _ h=>h.elim)).trans (C14.mono fun i _ h=>h.elim (fun h=>.inl (.inl h)) fun h=>h.elim (fun h=>.inl (.inr (.inl h))) fun h=>.inr (by omega))
      have R5':Rm S N4 jr jq ja b ((sg1R b r.1 r.2.1).1,(sg1R b r.1 r.2.1).2.1,r.2.2):=R5
      generalize hsx:(sg1R b r.1 r.2.1).2.2=x
      have e0:((getR b r.1 r.2.1 4).2.2:Int)=x.a:=by rw [← hsx]; rfl
      have e1:((getR b (getR b r.1 r.2.1 4).1 (getR b r.1 r.2.1 4).2.1 2).2.2:Int)=x.b:=by rw [← hsx]; rfl
      have e2:((getR b (getR b (getR b r.1 r.2.1 4).1 (getR b r.1 r.2.1 4).2.1 2).1 (getR b (getR b r.1 r.2.1 4).1 (getR b r.1 r.2.1 4).2.1 2).2.1 4).2.2:Int)=x.c:=by rw [← hsx]; rfl
      dsimp only
      rw [e0,e1,e2]
      rw [show ((getR b (getR b (getR b (getR b r.1 r.2.1 4).1 (getR b r.1 r.2.1 4).2.1 2).1 (getR b (getR b r.1 r.2.1 4).1 (getR b r.1 r.2.1 4).2.1 2).2.1 4).1 (getR b (getR b (getR b r.1 r.2.1 4).1 (getR b r.1 r.2.1 4).2.1 2).1 (getR b (getR b r.1 r.2.1 4).1 (getR b r.1 r.2.1 4).2.1 2).2.1 4).2.1 2).2.2:Int)=x.d by rw [← hsx]; rfl]
      have K5:Keep N4 (N4.new (.cells #[.int .i64 x.a,.int .i64 x.b,.int .i64 x.c,.int .i64 x.d] 96)):=.new _ _
      have O5:Own (fun j=>lo≤j) (N4.new (.cells #[.int .i64 x.a,.int .i64 x.b,.int .i64 x.c,.int .i64 x.d] 96)) 96 r.2.2.A (r.2.2.c*4) (Sgs X):=(O4.mono fun _ _ h=>h.1).chg K5 fun _ _ _ h=>h
      have n5:=Mem.new_size N4 (.cells #[.int .i64 x.a,.int .i64 x.b,.int .i64 x.c,.int .i64 x.d] 96)
      have r5:=Row.new N4 96 x.cells
      have fl:N4.floor≤lo:=by rw [C14.floor,K0.floor]; exact hf
      obtain ⟨A',c',M6,p6,C6,O6,hc6⟩:=append_own elem38 O5 (n:=X.length) (by rw [Sgs_len]; omega) r5 (k:=1) (cx:=1) rfl rfl (fun j hj=>by show N4.floor≤j; omega) (by rw [n5]; omega) (by omega)
      rw [← hn] at p6
      refine me p6 (ty rfl (ad rfl ?_))
      have R6:=(R5'.keep K5).chg C6 (by omega) (by omega) (by omega) fun i hi h=>by have:=R.su i hi; omega
      obtain ⟨M7,p7,C7,z7,R7⟩:=R6.set (o:=26) (v:=.slice A' (r.2.2.n+1) c') (by decide) rfl (h':={ r.2.2 with A:=A',n:=r.2.2.n+1,c:=c' }) rfl
      refine pt p7 ?_
      have O7:Own (fun j=>lo≤j) M7 96 A' (c'*4) (Sgs X ++ x.cells):=O6.chg C7 fun j _ hj h=>by omega
      have sE:Sgs X ++ x.cells=Sgs (X ++ [x]):=by simp [Sgs,List.flatMap_append]
      rw [sE] at O7
      have E7:Ch jr jq ja lo M0 M7:=((E4.trans (K5.mono fun i _ h=>h.elim)).trans (C6.mono fun i _ h=>.inr h)).trans (C7.mono fun i _ h=>.inl (.inr (.inr h)))
      have z6:=C6.size
      rw [i64w (by omega)]
      refine e71_2 q (i+1) (X:=X ++ [x]) (r:=((sg1R b r.1 r.2.1).1,(sg1R b r.1 r.2.1).2.1,{ r.2.2 with A:=A',n:=r.2.2.n+1,c:=c' })) (by dsimp only; omega) hc (by dsimp only; rw [List.length_append,hn]; rfl) (by simp; omega) O7 E7 R7 (by omega) hl (by rw [C7.floor,C6.floor]; exact fl) ?_
      intro N A c EE RR OO ss
      refine K N A c EE ?_ ?_ ss
      · have:X.length+(q+1)=(X ++ [x]).length+q:=by simp; omega
        rw [this]; exact RR
      · have:X ++ (sgsR b (q+1) r.1 r.2.1).2.2=(X ++ [x]) ++ (sgsR b q (sg1R b r.1 r.2.1).1 (sg1R b r.1 r.2.1).2.1).2.2:=by
          simp only [sgsR,hsx,List.append_assoc,List.singleton_append]
        rw [this]; exact OO
end
end Go.Zt

/- Layer 20: HeadsReads: the document's filters,done. -/
set_option linter.unusedSimpArgs false
set_option linter.unusedVariables false
set_option maxRecDepth 100000
namespace Go.Zt
open Go Go.Sim Go.Proofs Go.RowKit
section
variable {S:Nat→Prop} {M N M0:Mem} {jr jq jh ja jb js lo:Nat} {b:List Nat} {r:RS}
set_option maxHeartbeats 1000000 in
theorem c71 (R:Rm S M jr jq jh b r) (lr:jr<M.nb.size) (hA:r.2.2.A=none∧r.2.2.n=0∧r.2.2.c=0):
    Cn Try.prog 71 #[PtrB jr,.agg r.2.2.cs] M fun v N=>∃ r' X,FiltR b r r' X∧v=.agg r'.2.2.cs∧Chg (fun i=>i=jr∨i=jq∨M.nb.size≤i) M N∧Rm S N jr jq jh b (r'.1,r'.2.1,r.2.2)∧r'.2.2.n=X.length∧Row N r'.2.2.A (Sgs X)∧∀ a,r'.2.2.A=some a→a.block % 2=0∧M.nb.size≤a.block / 2:=by
  have a:=Mem.new_at M (.cells r.2.2.cs 41)
  have K1:Keep M (M.new (.cells r.2.2.cs 41)):=.new _ _
  have s1:=Mem.new_size M (.cells r.2.2.cs 41)
  refine w71_0 ?_
  generalize M.new (.cells r.2.2.cs 41)=M1 at a K1 s1 ⊢
  generalize hz:(#[.bool false,.int .i64 0,.bool false,.bool false,.int .i64 0,.int .i64 0,.int .i64 0,.int .i64 0,.int .i64 0,.int .i64 0,.int .i64 0,.int .i64 0,.int .i64 0,.int .i64 0,.int .i64 0,.int .i64 0,.int .i64 0,.bool false,.int .i64 0,.int .i64 0,.int .i64 0,.int .i64 0,.int .i64 0,.bool false,.int .i64 0,.int .i64 0,.slice none 0 0,.bool false,.bool false,.bool false]:Array Value)=zz
  have zs:zz.size=30:=by rw [← hz]; rfl
  have bz:=Mem.new_at M1 (.cells zz 41)
  have K2:Keep M1 (M1.new (.cells zz 41)):=.new _ _
  have s2:=Mem.new_size M1 (.cells zz 41)
  generalize M1.new (.cells zz 41)=M2 at bz K2 s2 ⊢
  have KK:=K1.trans K2
  have lq:jq<M.nb.size:=by obtain ⟨A,c,g,_⟩:=R.rd.ex; exact lt_of_at g
  have lh:=lt_of_at R.hd
  have R2:=R.keep KK
  have nS:∀ i,M.nb.size≤i→¬ S i:=fun i hi h=>by have:=R.su _ h; omega
  have R0:Rm S M2 jr jq M.nb.size b r:=⟨R2.rd,R2.cod,at_keep a K2,R.n1,by omega,by omega,R.s1,nS _ (Nat.le_refl _),R2.fr,R2.fq,by rw [KK.floor]; exact R.fs,R2.fs,R.su⟩
  have f2:M2.floor≤M.nb.size:=by rw [KK.floor]; exact R.fs
  generalize hja:M.nb.size=ja at R0 lr lq lh nS f2 ⊢
  generalize hjb:M1.nb.size=jb at bz ⊢
  have hb1:jb=ja+1:=by omega
  have hlo:M2.nb.size=ja+2:=by omega
  have fin:∀ {N:Mem} {r6 r7:RS} {X:List Sg},(∀ r8 r9 r',r8=gB b r7 (fun x=>{ r7.2.2 with x0:=x })→r9=gB b r8 (fun x=>{ r8.2.2 with x1:=x })→r'=gB b r9 (fun x=>{ r9.2.2 with x2:=x })→FiltR b r r' X)→Ch jr jq ja (ja+2) M2 N→Rm S N jr jq ja b r7→ja+2≤N.nb.size→r7.2.2.n=X.length→Own (fun j=>ja+2≤j) N 96 r7.2.2.A (r7.2.2.c*4) (Sgs X)→
      A71_3 (some ⟨2*jr,0,none⟩) (some ⟨2*ja,0,none⟩) (some ⟨2*jb,0,none⟩) 0 N fun v N=>∃ r' X,FiltR b r r' X∧v=.agg r'.2.2.cs∧Chg (fun i=>i=jr∨i=jq∨ja≤i) M N∧Rm S N jr jq jh b (r'.1,r'.2.1,r.2.2)∧r'.2.2.n=X.length∧Row N r'.2.2.A (Sgs X)∧∀ a,r'.2.2.A=some a→a.block % 2=0∧ja≤a.block / 2:=by
    intro N r6 r7 X hF E R7 hs hn hO
    have b7:=at_chg bz E fun h=>by omega
    refine e71_3 zs (by omega) (nS _ (by omega)) b7 (by rw [E.floor]; omega) R7 fun N' r8 r9 r' h8 h9 h' C RD RC=>?_
    have q8:r8.2.2.n=r7.2.2.n∧r8.2.2.A=r7.2.2.A:=by rw [h8]; exact ⟨rfl,rfl⟩
    have q9:r9.2.2.n=r8.2.2.n∧r9.2.2.A=r8.2.2.A:=by rw [h9]; exact ⟨rfl,rfl⟩
    have q':r'.2.2.n=r9.2.2.n∧r'.2.2.A=r9.2.2.A:=by rw [h']; exact ⟨rfl,rfl⟩
    have qA:r'.2.2.A=r7.2.2.A:=by rw [q'.2,q9.2,q8.2]
    have qn:r'.2.2.n=r7.2.2.n:=by rw [q'.1,q9.1,q8.1]
    have hO2:Own (fun j=>ja+2≤j∧j<N.nb.size) N' 96 r7.2.2.A (r7.2.2.c*4) (Sgs X):=(hO.mono (T:=fun j=>ja+2≤j∧j<N.nb.size) fun j hj h=>⟨h,hj⟩).chg C fun j _ hj h=>by omega
    have CC:Chg (fun i=>i=jr∨i=jq∨ja≤i) M N':=((KK.mono fun i _ h=>h.elim).trans (E.mono fun i _ h=>by omega)).trans (C.mono fun i _ h=>by omega)
    refine ⟨r',X,hF r8 r9 r' h8 h9 h',rfl,CC,⟨RD,RC,at_chg R.hd CC (by have:=R.n3; have:=R.n2; omega),R.n1,R.n2,R.n3,R.s1,R.s2,by rw [CC.floor]; exact R.fr,by rw [CC.floor]; exact R.fq,by rw [CC.floor]; exact R.fh,by rw [CC.floor]; have:=CC.size; have:=R.fs; omega,R.su⟩,by rw [qn,hn],by rw [qA]; exact hO2.row,fun x hx=>?_⟩
    rw [qA] at hx
    have:=hO2.in_ x hx
    exact ⟨this.1,by have:=this.2.1; omega⟩
  refine w71_1 (cT (by decide) (iK0 (lo:=ja+2) (.refl M2) R0 (by decide) (by decide) (o:=18) (fun x=>{ r.2.2 with l0:=x }) (by decide) (fun _=>rfl) (fun _ _ h=>ad rfl (ix (x:=⟨2*ja,18,none⟩) (by kernel_rfl) h)) fun N1 r1 h1 E1 R1=>?_))
  refine w71_1 (cT (by decide) (iK0 E1 R1 (by decide) (by decide) (o:=19) (fun x=>{ r1.2.2 with l1:=x }) (by decide) (fun _=>rfl) (fun _ _ h=>ad rfl (ix (x:=⟨2*ja,19,none⟩) (by kernel_rfl) h)) fun N2 r2 h2 E2 R2=>?_))
  refine w71_1 (cT (by decide) (iK0 E2 R2 (by decide) (by decide) (o:=20) (fun x=>{ r2.2.2 with l2:=x }) (by decide) (fun _=>rfl) (fun _ _ h=>ad rfl (ix (x:=⟨2*ja,20,none⟩) (by kernel_rfl) h)) fun N3 r3 h3 E3 R3=>?_))
  refine w71_1 (cT (by decide) (iK0 E3 R3 (by decide) (by decide) (o:=21) (fun x=>{ r3.2.2 with l3:=x }) (by decide) (fun _=>rfl) (fun _ _ h=>ad rfl (ix (x:=⟨2*ja,21,none⟩) (by kernel_rfl) h)) fun N4 r4 h4 E4 R4=>?_))
  refine w71_1 (cF (by decide) (iK0 E4 R4 (by decide) (by decide) (o:=22) (fun x=>{ r4.2.2 with sp:=x }) (by decide) (fun _=>rfl) (fun _ _ h=>ad rfl h) fun N5 r5 h5 E5 R5=>bK E5 R5 (o:=23) (fun x=>{ r5.2.2 with cd:=x }) (by decide) (fun _=>rfl) (fun _ _ h=>ad rfl h) fun N6 r6 h6 E6 R6=>ad rfl (on (bool_of (i:=23) R6.hd rfl) (cn (fun hc=>?_) fun hc=>?_))))
  all_goals
    have q1:r1.2.2.A=r.2.2.A∧r1.2.2.n=r.2.2.n∧r1.2.2.c=r.2.2.c:=by rw [h1]; exact ⟨rfl,rfl,rfl⟩
    have q2:r2.2.2.A=r1.2.2.A∧r2.2.2.n=r1.2.2.n∧r2.2.2.c=r1.2.2.c:=by rw [h2]; exact ⟨rfl,rfl,rfl⟩
    have q3:r3.2.2.A=r2.2.2.A∧r3.2.2.n=r2.2.2.n∧r3.2.2.c=r2.2.2.c:=by rw [h3]; exact ⟨rfl,rfl,rfl⟩
    have q4:r4.2.2.A=r3.2.2.A∧r4.2.2.n=r3.2.2.n∧r4.2.2.c=r3.2.2.c:=by rw [h4]; exact ⟨rfl,rfl,rfl⟩
    have q5:r5.2.2.A=r4.2.2.A∧r5.2.2.n=r4.2.2.n∧r5.2.2.c=r4.2.2.c:=by rw [h5]; exact ⟨rfl,rfl,rfl⟩
    have q6:r6.2.2.A=r5.2.2.A∧r6.2.2.n=r5.2.2.n∧r6.2.2.c=r5.2.2.c:=by rw [h6]; exact ⟨rfl,rfl,rfl⟩
    have Q6:r6.2.2.A=none∧r6.2.2.n=0∧r6.2.2.c=0:=⟨by rw [q6.1,q5.1,q4.1,q3.1,q2.1,q1.1,hA.1],by rw [q6.2.1,q5.2.1,q4.2.1,q3.2.1,q2.2.1,q1.2.1,hA.2.1],by rw [q6.2.2,q5.2.2,q4.2.2,q3.2.2,q2.2.2,q1.2.2,hA.2.2]⟩
    have z6:=E6.size
  · refine iK E6 R6 (n:=2) (by decide) (by decide) (o:=24) (fun x=>{ r6.2.2 with da:=x }) 3 (fun x=>IntKind.i64.wrap (3+x)) (fun x h0 h1=>(i64w (by omega)).trans (Int.add_comm 3 x)) (by decide) (fun _=>rfl) (fun _ _ h=>ad rfl h) fun N7 ra ha E7 R7=>?_
    refine iK0 E7 R7 (n:=2) (by decide) (by decide) (o:=25) (fun x=>{ ra.2.2 with cb:=x }) (by decide) (fun _=>rfl) (fun _ _ h=>ad rfl h) fun N8 rb hb E8 R8=>?_
    have qa:ra.2.2.A=none∧ra.2.2.n=0∧ra.2.2.c=0:=by rw [ha]; exact Q6
    have qb:rb.2.2.A=none∧rb.2.2.n=0∧rb.2.2.c=0:=by rw [hb]; exact qa
    have cbb:0≤rb.2.2.cb∧rb.2.2.cb<4:=by
      have:=getR_pow (b:=b) (p:=ra.1) (e:=ra.2.1) (n:=2)
      have e:rb.2.2.cb=((getR b ra.1 ra.2.1 2).2.2:Nat)+(0:Int):=by rw [hb]; rfl
      rw [e]
      have:(2:Nat) ^ (2:Int).toNat=4:=rfl
      omega
    have pb:2 ^ rb.2.2.cb.toNat≤2 ^ 3:=Nat.pow_le_pow_right (by decide) (by omega)
    refine e71_2 (lo:=ja+2) (M0:=M2) (X:=[]) (2 ^ rb.2.2.cb.toNat) 0 (by omega) cbb qb.2.1 (by simp; omega) (by rw [qb.1,qb.2.2]; exact .inl ⟨rfl,rfl,by decide⟩) E8 R8 (by have:=E8.size; omega) (by omega) (by rw [E8.floor]; omega) fun N A c EE RR OO ss=>?_
    refine fin (r6:=r6) (X:=[] ++ (sgsR b (2 ^ rb.2.2.cb.toNat) rb.1 rb.2.1).2.2) (fun r8 r9 r' h8 h9 h'=>⟨r1,h1,r2,h2,r3,h3,r4,h4,r5,h5,r6,h6,_,?_,r8,h8,r9,h9,h'⟩) EE RR ss (by simp [sgsR_len]) OO
    rw [if_pos hc]
    refine ⟨ra,ha,rb,hb,⟨A,c,?_⟩,by simp⟩
    simp
  · refine fin (r6:=r6) (X:=[]) (fun r8 r9 r' h8 h9 h'=>⟨r1,h1,r2,h2,r3,h3,r4,h4,r5,h5,r6,h6,r6,?_,r8,h8,r9,h9,h'⟩) E6 R6 (by omega) Q6.2.1 (by rw [Q6.1,Q6.2.2]; exact .inl ⟨rfl,rfl,by decide⟩)
    rw [if_neg (by rw [hc]; decide)]; exact ⟨rfl,rfl⟩
end
end Go.Zt

/- Layer 20: HeadsReads: the document's Read. -/
set_option linter.unusedSimpArgs false
set_option linter.unusedVariables false
set_option maxRecDepth 100000
namespace Go.Zt
open Go Go.Sim Go.Proofs Go.RowKit
def TailR (b:List Nat) (w e:Int) (r0 r:RS) (X:List Sg):Prop:=
  ∃ r1,r1=gD b r0 (fun x=>{ r0.2.2 with d0:=x })∧∃ r2,r2=gD b r1 (fun x=>{ r1.2.2 with d1:=x })∧∃ r3,r3=gD b r2 (fun x=>{ r2.2.2 with d2:=x })∧
  ∃ r4,r4=gD b r3 (fun x=>{ r3.2.2 with d3:=x })∧∃ r5,r5=gD b r4 (fun x=>{ r4.2.2 with d4:=x })∧
  ∃ r6,r6=gL b r5 (fun x=>{ r5.2.2 with co:=x }) w∧∃ r7,r7=gL b r6 (fun x=>{ r6.2.2 with ro:=x }) e∧∃ r8,r8=gB b r7 (fun x=>{ r7.2.2 with na:=x })∧
  if r8.2.2.less=true then r=r8∧X=[] else FiltR b r8 r X
def RefRR (b:List Nat) (r0 r:RS):Prop:=
  if r0.2.2.ke=true then r=r0 else
    ∃ r1,r1=gI b r0 3 0 (fun x=>{ r0.2.2 with r0:=x })∧∃ r2,r2=gI b r1 3 0 (fun x=>{ r1.2.2 with r1:=x })∧∃ r3,r3=gI b r2 3 0 (fun x=>{ r2.2.2 with r2:=x })∧
    ∃ r4,r4=((getR b r3.1 r3.2.1 1).1,(getR b r3.1 r3.2.1 1).2.1,r3.2.2)∧
    if (getR b r3.1 r3.2.1 1).2.2=1 then r=gI b r4 3 0 (fun x=>{ r4.2.2 with pr:=x }) else r=r4
def HeadR (b:List Nat) (w e:Int) (r0 r:RS) (X:List Sg):Prop:=
  ∃ r1,r1=gB b r0 (fun x=>{ r0.2.2 with ex:=x })∧
  if r1.2.2.ex=true then r=gI b r1 3 0 (fun x=>{ r1.2.2 with sl:=x })∧X=[] else
  ∃ r2,r2=gB b r1 (fun x=>{ r1.2.2 with sh:=x })∧∃ r3,r3=gB b r2 (fun x=>{ r2.2.2 with ke:=x })∧∃ r4,r4=gI b r3 8 0 (fun x=>{ r3.2.2 with rf:=x })∧
  ∃ r5,r5=(r4.1,r4.2.1,{ r4.2.2 with pr := -1 })∧∃ r6,RefRR b r5 r6∧∃ r7,r7=gI b r6 8 0 (fun x=>{ r6.2.2 with ba:=x })∧TailR b w e r7 r X
def TolR (S:Nat→Prop) (b:List Nat) (jq lo:Nat) (M0:Mem) (T:RS→List Sg→Prop):Value→Mem→Prop:=fun v N=>
  ∃ r X,T r X∧Chg (fun i=>i=jq∨lo≤i) M0 N∧RefR S N jq b r.1∧((r.2.1≠0∧v=.tuple #[.agg zH.cs,.int .i64 (r.2.1:Nat)])∨(r.2.1=0∧v=.tuple #[.agg r.2.2.cs,.int .i64 0]∧r.2.2.n=X.length∧Row N r.2.2.A (Sgs X)))
section
variable {S:Nat→Prop} {M N M0:Mem} {jr jq jh ja jb jx js jw lo:Nat} {b:List Nat} {r:RS} {w e:Int} {T:RS→List Sg→Prop}
theorem lrq (R:Rm S M jr jq jh b r):jr<M.nb.size∧jq<M.nb.size∧jh<M.nb.size:=⟨lt_of_at R.cod,by obtain ⟨A,c,g,_⟩:=R.rd.ex; exact lt_of_at g,lt_of_at R.hd⟩
theorem end36 {zz:Array Value} {lw:Nat} {Q:Value→Mem→Prop} (hQ:∀ v N,TolR S b jq lw M0 T v N→Q v N) (E:Ch jr jq jh lo M0 M) (R:Rm S M jr jq jh b r) (hx:M0.nb[jx]?=some (.cells zz 41)) (zs:zz.size=30) (nx:jx<lo∧jx≠jr∧jx≠jq∧jx≠jh) (fx:M0.floor≤jx) (sx:¬ S jx) (ge:lw≤jx∧lw≤jr∧lw≤jh∧lw≤lo)
    {X:List Sg} (hT:T r X) (hn:r.2.2.n=X.length) (hR:Row M r.2.2.A (Sgs X)) (hA:∀ a,r.2.2.A=some a→a.block % 2=0∧lo≤a.block / 2):
    onS (M.intAt .i64 (2*jr) (0+1)) fun x=>cnd (x != 0) (onS (M.intAt .i64 (2*jr) (0+1)) fun y=>cnd (decide (Option.map (fun a:Addr=>a.block) (some ⟨2*jx,0,none⟩)=some (2*jr))) False (stP (some 30) zH.cs M (2*jx) 0 fun M1=>ldP tyZlF0 M1 (2*jx) 0 fun vs=>Q (.tuple #[.agg vs.toArray,.int .i64 y]) M1)) (ldP tyZlF0 M (2*jh) 0 fun us=>stP (some 30) us.toArray M (2*jx) 0 fun M1=>ldP tyZlF0 M1 (2*jx) 0 fun vs=>Q (.tuple #[.agg vs.toArray,.int .i64 0]) M1):=by
  have x1:=at_chg hx E fun h=>by omega
  have fl:M.floor≤jx:=by rw [E.floor]; exact fx
  have lx:=lt_of_at hx
  have fin:∀ {M1:Mem},Chg (· = jx) M M1→Chg (fun i=>i=jq∨lw≤i) M0 M1:=fun C=>(E.mono fun i _ h=>by omega).trans (C.mono fun i _ h=>by omega)
  refine on (int_of R.cod rfl) (cne (fun he=>on (int_of R.cod rfl) (cF (decide_eq_false ?_) (stA x1 fl rfl (by rw [zs]; rfl) rfl fun M1 C1 z1 u1=>ldA u1 rfl (hQ _ _ ⟨r,X,hT,fin C1,R.rd.chg C1 (fun h=>nx.2.2.1 h.symm) (fun i hi h=>sx (h ▸ hi)),.inl ⟨by omega,rfl⟩⟩)))) fun he=>?_)
  · intro hh
    have:(2*jx:Nat)=2*jr:=Option.some.inj hh
    omega
  · refine ldA R.hd rfl (stA x1 fl rfl (by rw [zs]; rfl) rfl fun M1 C1 z1 u1=>ldA u1 rfl (hQ _ _ ⟨r,X,hT,fin C1,R.rd.chg C1 (fun h=>nx.2.2.1 h.symm) (fun i hi h=>sx (h ▸ hi)),.inr ⟨by omega,rfl,hn,hR.chg C1 fun a ha=>.inr fun h=>?_⟩⟩))
    have:=(hA a ha).2
    omega
set_option maxHeartbeats 1000000 in
theorem e36_2 {zz:Array Value} {lw:Nat} (hw:16≤w∧w≤256) (he:16≤e∧e≤256) (E:Ch jr jq jh lo M0 M) (R:Rm S M jr jq jh b r) (hx:M0.nb[jx]?=some (.cells zz 41)) (zs:zz.size=30) (nx:jx<lo∧jx≠jr∧jx≠jq∧jx≠jh) (fx:M0.floor≤jx) (sx:¬ S jx) (ge:lw≤jx∧lw≤jr∧lw≤jh∧lw≤lo) (lM:lo≤M0.nb.size)
    (sw:M0.nb[jw]?=some (.cells #[.int .i64 w,.int .i64 e] 23)) (nw:jw<lo∧jw≠jr∧jw≠jq∧jw≠jh) (hA:r.2.2.A=none∧r.2.2.n=0∧r.2.2.c=0) (hT:∀ r' X,TailR b w e r r' X→T r' X):
    A36_2 (some ⟨2*jw,0,none⟩) (some ⟨2*jx,0,none⟩) (some ⟨2*jr,0,none⟩) (some ⟨2*jh,0,none⟩) 0 M (TolR S b jq lw M0 T):=by
  refine w36_2 (cT (by decide) (dK' E R (o:=10) (fun x=>{ r.2.2 with d0:=x }) (by decide) (fun _=>rfl) (fun _ _ h=>ad rfl (ix (x:=⟨2*jh,10,none⟩) (by kernel_rfl) h)) fun N1 r1 h1 E1 R1=>?_))
  refine w36_2 (cT (by decide) (dK' E1 R1 (o:=11) (fun x=>{ r1.2.2 with d1:=x }) (by decide) (fun _=>rfl) (fun _ _ h=>ad rfl (ix (x:=⟨2*jh,11,none⟩) (by kernel_rfl) h)) fun N2 r2 h2 E2 R2=>?_))
  refine w36_2 (cT (by decide) (dK' E2 R2 (o:=12) (fun x=>{ r2.2.2 with d2:=x }) (by decide) (fun _=>rfl) (fun _ _ h=>ad rfl (ix (x:=⟨2*jh,12,none⟩) (by kernel_rfl) h)) fun N3 r3 h3 E3 R3=>?_))
  refine w36_2 (cT (by decide) (dK' E3 R3 (o:=13) (fun x=>{ r3.2.2 with d3:=x }) (by decide) (fun _=>rfl) (fun _ _ h=>ad rfl (ix (x:=⟨2*jh,13,none⟩) (by kernel_rfl) h)) fun N4 r4 h4 E4 R4=>?_))
  refine w36_2 (cT (by decide) (dK' E4 R4 (o:=14) (fun x=>{ r4.2.2 with d4:=x }) (by decide) (fun _=>rfl) (fun _ _ h=>ad rfl (ix (x:=⟨2*jh,14,none⟩) (by kernel_rfl) h)) fun N5 r5 h5 E5 R5=>?_))
  have sN:∀ {N:Mem},Ch jr jq jh lo M0 N→N.nb[jw]?=some (.cells #[.int .i64 w,.int .i64 e] 23):=fun E=>at_chg sw E fun h=>by omega
  refine w36_2 (cF (by decide) (ad rfl (on (int_of (sN E5) rfl) (lK E5 R5 hw (o:=15) (fun x=>{ r5.2.2 with co:=x }) (by decide) (fun _=>rfl) (fun _ _ h=>ad rfl h) fun N6 r6 h6 E6 R6=>ad rfl (on (int_of (sN E6) rfl) (lK E6 R6 he (o:=16) (fun x=>{ r6.2.2 with ro:=x }) (by decide) (fun _=>rfl) (fun _ _ h=>ad rfl h) fun N7 r7 h7 E7 R7=>bK E7 R7 (o:=17) (fun x=>{ r7.2.2 with na:=x }) (by decide) (fun _=>rfl) (fun _ _ h=>ad rfl h) fun N8 r8 h8 E8 R8=>ad rfl (ldA R8.hd rfl (Cn.mono c54 ?_))))))))
  rintro _ N9 ⟨rfl,K9⟩
  have q1:r1.2.2.A=r.2.2.A∧r1.2.2.n=r.2.2.n∧r1.2.2.c=r.2.2.c:=by rw [h1]; exact ⟨rfl,rfl,rfl⟩
  have q2:r2.2.2.A=r1.2.2.A∧r2.2.2.n=r1.2.2.n∧r2.2.2.c=r1.2.2.c:=by rw [h2]; exact ⟨rfl,rfl,rfl⟩
  have q3:r3.2.2.A=r2.2.2.A∧r3.2.2.n=r2.2.2.n∧r3.2.2.c=r2.2.2.c:=by rw [h3]; exact ⟨rfl,rfl,rfl⟩
  have q4:r4.2.2.A=r3.2.2.A∧r4.2.2.n=r3.2.2.n∧r4.2.2.c=r3.2.2.c:=by rw [h4]; exact ⟨rfl,rfl,rfl⟩
  have q5:r5.2.2.A=r4.2.2.A∧r5.2.2.n=r4.2.2.n∧r5.2.2.c=r4.2.2.c:=by rw [h5]; exact ⟨rfl,rfl,rfl⟩
  have q6:r6.2.2.A=r5.2.2.A∧r6.2.2.n=r5.2.2.n∧r6.2.2.c=r5.2.2.c:=by rw [h6]; exact ⟨rfl,rfl,rfl⟩
  have q7:r7.2.2.A=r6.2.2.A∧r7.2.2.n=r6.2.2.n∧r7.2.2.c=r6.2.2.c:=by rw [h7]; exact ⟨rfl,rfl,rfl⟩
  have q8:r8.2.2.A=r7.2.2.A∧r8.2.2.n=r7.2.2.n∧r8.2.2.c=r7.2.2.c:=by rw [h8]; exact ⟨rfl,rfl,rfl⟩
  have Q8:r8.2.2.A=none∧r8.2.2.n=0∧r8.2.2.c=0:=⟨by rw [q8.1,q7.1,q6.1,q5.1,q4.1,q3.1,q2.1,q1.1,hA.1],by rw [q8.2.1,q7.2.1,q6.2.1,q5.2.1,q4.2.1,q3.2.1,q2.2.1,q1.2.1,hA.2.1],by rw [q8.2.2,q7.2.2,q6.2.2,q5.2.2,q4.2.2,q3.2.2,q2.2.2,q1.2.2,hA.2.2]⟩
  clear q1 q2 q3 q4 q5 q6 q7 q8
  have E9:Ch jr jq jh lo M0 N9:=E8.trans (K9.mono fun i _ h=>h.elim)
  have R9:=R8.keep K9
  have z9:=E9.size
  refine ty rfl (cnn (fun hl=>ad rfl (ldA R9.hd rfl (Cn.mono (c71 R9 (lrq R9).1 Q8) ?_))) fun hl=>?_)
  · rintro _ N ⟨r',X,hF,rfl,C,RR,hn,row,hAA⟩
    refine ty rfl (ac0 rfl (ad rfl (stA RR.hd RR.fh rfl rfl rfl fun M1 C1 z1 u1=>ad rfl ?_)))
    have R1':Rm S M1 jr jq jh b r':=⟨RR.rd.chg C1 (fun h=>RR.n2 h.symm) fun i hi h=>RR.s2 (h ▸ hi),at_chg RR.cod C1 fun h=>RR.n3 h.symm,u1,RR.n1,RR.n2,RR.n3,RR.s1,RR.s2,by rw [C1.floor]; exact RR.fr,by rw [C1.floor]; exact RR.fq,by rw [C1.floor]; exact RR.fh,by rw [C1.floor,z1]; exact RR.fs,RR.su⟩
    have E1':Ch jr jq jh lo M0 M1:=(E9.trans (C.mono fun i _ h=>by omega)).trans (C1.mono fun i _ h=>by omega)
    have lh:=(lrq R9).2.2
    exact end36 (lw:=lw) (fun _ _ h=>h) E1' R1' hx zs nx fx sx ge (T:=T) (hT r' X ⟨r1,h1,r2,h2,r3,h3,r4,h4,r5,h5,r6,h6,r7,h7,r8,h8,by rw [if_neg (by rw [hl]; decide)]; exact hF⟩) hn (row.chg C1 fun a ha=>.inr fun h=>by have:=(hAA a ha).2; omega) fun a ha=>⟨(hAA a ha).1,by have:=(hAA a ha).2; omega⟩
  · exact ad rfl (end36 (lw:=lw) (fun _ _ h=>h) E9 R9 hx zs nx fx sx ge (T:=T) (X:=[]) (hT r8 [] ⟨r1,h1,r2,h2,r3,h3,r4,h4,r5,h5,r6,h6,r7,h7,r8,h8,by rw [if_pos hl]; exact ⟨rfl,rfl⟩⟩) Q8.2.1 (fun i hi=>by simp [Sgs] at hi) fun a ha=>by rw [Q8.1] at ha; cases ha)
end
end Go.Zt

/- Layer 20: HeadsReads: the program's reading and the document's are the same. Plain. -/
set_option linter.unusedSimpArgs false
set_option linter.unusedVariables false
set_option maxRecDepth 100000
namespace Go.Zt
open Go Go.Sim Go.Proofs Go.RowKit
def wo (h:Hd):Hd:={ h with A:=none,n:=0,c:=0 }
def wop (h:Hd):Hd:={ h with A:=none,n:=0,c:=0,pr:=0 }
structure Rel (π:Hd→Hd) (b:List Nat) (c:Cd) (r:RS):Prop where
  d:c.1=.r b r.1
  e:c.2.1=r.2.1
  h:r.2.1=0→π c.2.2=π r.2.2
section
variable {π:Hd→Hd} {b:List Nat} {c c':Cd} {r r':RS}
theorem getR_err {p e:Nat} {n:Int} (h:(getR b p e n).2.1=0):e=0:=by
  unfold getR at h
  split at h
  · rename_i q; exact absurd h q
  · rename_i q; omega
theorem getR_zero {p e:Nat} {n:Int} (h:(getR b p e n).2.1≠0):(getR b p e n).2.2=0:=by
  unfold getR rFixed at h ⊢
  split
  · rfl
  · rename_i q
    rw [if_neg q] at h
    split
    · rfl
    · split
      · rfl
      · rename_i q1 q2
        rw [if_neg q1,if_neg q2] at h
        exact absurd rfl h
theorem numD_r {p e:Nat} {v n f:Int}:(numD (.r b p) e v n f).1=.r b (getR b p e n).1∧(numD (.r b p) e v n f).2.1=(getR b p e n).2.1∧((getR b p e n).2.1=0→(numD (.r b p) e v n f).2.2=((getR b p e n).2.2:Nat)+f):=by
  unfold numD getR
  by_cases he:e≠0
  · rw [if_pos he,if_pos he]; exact ⟨rfl,rfl,fun h=>absurd h he⟩
  · rw [if_neg he,if_neg he]; exact ⟨rfl,rfl,fun h=>if_pos h⟩
theorem Rel.n (R:Rel π b c r) {v n f:Int} {s s':Int→Hd} (hs:π c.2.2=π r.2.2→∀ x,π (s x)=π (s' x)) (h1:c'=nF c v s n f) (h2:r'=gI b r n f s'):Rel π b c' r':=by
  obtain ⟨a1,a2,a3⟩:=numD_r (b:=b) (p:=r.1) (e:=r.2.1) (v:=v) (n:=n) (f:=f)
  subst h1 h2
  refine ⟨?_,?_,fun h0=>?_⟩
  · show (numD c.1 c.2.1 v n f).1=_; rw [R.d,R.e]; exact a1
  · show (numD c.1 c.2.1 v n f).2.1=_; rw [R.d,R.e]; exact a2
  · show π (s (numD c.1 c.2.1 v n f).2.2)=_
    rw [R.d,R.e,a3 h0]
    exact hs (R.h (getR_err h0)) _
theorem flagD_r {p e:Nat} {v:Bool}:(flagD (.r b p) e v).1=.r b (getR b p e 1).1∧(flagD (.r b p) e v).2.1=(getR b p e 1).2.1∧((getR b p e 1).2.1=0→(flagD (.r b p) e v).2.2=((getR b p e 1).2.2 == 1)):=by
  obtain ⟨a1,a2,a3⟩:=numD_r (b:=b) (p:=p) (e:=e) (v:=if v then 1 else 0) (n:=1) (f:=0)
  refine ⟨a1,a2,fun h0=>?_⟩
  show ((numD (.r b p) e (if v then 1 else 0) 1 0).2.2 == 1)=_
  rw [a3 h0,Bool.eq_iff_iff]
  simp only [beq_iff_eq]
  omega
theorem Rel.f (R:Rel π b c r) {v:Bool} {s s':Bool→Hd} (hs:π c.2.2=π r.2.2→∀ x,π (s x)=π (s' x)) (h1:c'=fF c v s) (h2:r'=gB b r s'):Rel π b c' r':=by
  obtain ⟨a1,a2,a3⟩:=flagD_r (b:=b) (p:=r.1) (e:=r.2.1) (v:=v)
  subst h1 h2
  refine ⟨?_,?_,fun h0=>?_⟩
  · show (flagD c.1 c.2.1 v).1=_; rw [R.d,R.e]; exact a1
  · show (flagD c.1 c.2.1 v).2.1=_; rw [R.d,R.e]; exact a2
  · show π (s (flagD c.1 c.2.1 v).2.2)=_
    rw [R.d,R.e,a3 h0]
    exact hs (R.h (getR_err h0)) _
theorem deltaD_r {p e:Nat}:(deltaD (.r b p) e 0).1=.r b (delR b p e).1∧(deltaD (.r b p) e 0).2.1=(delR b p e).2.1∧((delR b p e).2.1=0→e=0∧(deltaD (.r b p) e 0).2.2=(delR b p e).2.2):=by
  obtain ⟨a1,a2,a3⟩:=flagD_r (b:=b) (p:=p) (e:=e) (v:=(0:Int) != 0)
  have hl:=getR_pow (b:=b) (p:=p) (e:=e) (n:=1)
  have h2:(2:Nat) ^ (1:Int).toNat=2:=rfl
  unfold deltaD delR
  rw [a1,a2]
  generalize hg:getR b p e 1=g at *
  dsimp only
  by_cases h0:g.2.1=0
  · rw [a3 h0]
    have he:e=0:=getR_err (b:=b) (p:=p) (n:=1) (by rw [hg]; exact h0)
    by_cases h1:g.2.2=0
    · rw [if_pos (.inl (by rw [h1]; rfl)),if_pos (.inl h1)]
      exact ⟨rfl,rfl,fun _=>⟨he,rfl⟩⟩
    · have h1':g.2.2=1:=by omega
      rw [if_neg (fun q=>q.elim (fun q=>by rw [h1'] at q; cases q) fun q=>q h0),if_neg (show ¬ (g.2.2=0∨g.2.1≠0) from fun q=>q.elim h1 fun q=>q h0)]
      exact ⟨rfl,rfl,fun _=>⟨he,rfl⟩⟩
  · rw [if_pos (.inr h0),if_pos (.inr h0)]
    exact ⟨rfl,rfl,fun q=>absurd q h0⟩
theorem Rel.dl (R:Rel π b c r) {s s':Int→Hd} {v:Int} (hv:v=0) (hs:π c.2.2=π r.2.2→∀ x,π (s x)=π (s' x)) (h1:c'=dF' c v s) (h2:r'=gD b r s'):Rel π b c' r':=by
  obtain ⟨a1,a2,a3⟩:=deltaD_r (b:=b) (p:=r.1) (e:=r.2.1)
  subst hv h1 h2
  refine ⟨?_,?_,fun h0=>?_⟩
  · show (deltaD c.1 c.2.1 0).1=_; rw [R.d,R.e]; exact a1
  · show (deltaD c.1 c.2.1 0).2.1=_; rw [R.d,R.e]; exact a2
  · show π (s (deltaD c.1 c.2.1 0).2.2)=_
    rw [R.d,R.e,(a3 h0).2]
    exact hs (R.h (a3 h0).1) _
theorem logD_r {p e:Nat} {v z:Int}:(logD (.r b p) e v z).1=.r b (logR b p e z).1∧(logD (.r b p) e v z).2.1=(logR b p e z).2.1∧((logR b p e z).2.1=0→e=0∧(logD (.r b p) e v z).2.2=(logR b p e z).2.2):=by
  obtain ⟨a1,a2,a3⟩:=numD_r (b:=b) (p:=p) (e:=e) (v:=v) (n:=2) (f:=0)
  unfold logD logR
  rw [a1,a2]
  have hz:=getR_zero (b:=b) (p:=p) (e:=e) (n:=2)
  have he:=getR_err (b:=b) (p:=p) (e:=e) (n:=2)
  generalize getR b p e 2=g at *
  dsimp only
  by_cases h0:g.2.1=0
  · rw [a3 h0,Int.add_zero]
    by_cases hm:logM g.2.2 z=false
    · rw [if_pos ⟨h0,hm⟩,if_pos (.inl ⟨h0,hm⟩)]
      exact ⟨rfl,rfl,fun q=>by cases q⟩
    · have hm2:¬ (2:Int)<g.2.2:=fun q=>hm (by unfold logM; rw [decide_eq_false_iff_not]; omega)
      rw [if_neg (fun q=>hm q.2),if_neg (fun q=>q.elim (fun q=>hm q.2) hm2)]
      exact ⟨a1,a2,fun _=>⟨he h0,by rw [a3 h0,Int.add_zero]⟩⟩
  · rw [if_neg (fun q=>h0 q.1),if_neg (fun q=>q.elim (fun q=>h0 q.1) fun q=>by rw [hz h0] at q; omega)]
    exact ⟨a1,a2,fun q=>absurd q h0⟩
theorem Rel.l (R:Rel π b c r) {s s':Int→Hd} {v z:Int} (hs:π c.2.2=π r.2.2→∀ x,π (s x)=π (s' x)) (h1:c'=gF c v s z) (h2:r'=gL b r s' z):Rel π b c' r':=by
  obtain ⟨a1,a2,a3⟩:=logD_r (b:=b) (p:=r.1) (e:=r.2.1) (v:=v) (z:=z)
  subst h1 h2
  refine ⟨?_,?_,fun h0=>?_⟩
  · show (logD c.1 c.2.1 v z).1=_; rw [R.d,R.e]; exact a1
  · show (logD c.1 c.2.1 v z).2.1=_; rw [R.d,R.e]; exact a2
  · show π (s (logD c.1 c.2.1 v z).2.2)=_
    rw [R.d,R.e,(a3 h0).2]
    exact hs (R.h (a3 h0).1) _
end
end Go.Zt

/- Layer 20: HeadsReads: the program's reading of a header and the document's are the same. Plain. -/
set_option linter.unusedSimpArgs false
set_option linter.unusedVariables false
set_option maxRecDepth 100000
namespace Go.Zt
open Go Go.Sim Go.Proofs Go.RowKit
def Dd (c c':Cd):Prop:=c.2.1≠0→c'.1=c.1∧c'.2.1=c.2.1
def De (r r':RS):Prop:=r.2.1≠0→r'.1=r.1∧r'.2.1=r.2.1
theorem Dd.trans {a b c:Cd} (h:Dd a b) (k:Dd b c):Dd a c:=fun he=>by
  obtain ⟨h1,h2⟩:=h he
  obtain ⟨k1,k2⟩:=k (by rw [h2]; exact he)
  exact ⟨k1.trans h1,k2.trans h2⟩
theorem De.trans {a b c:RS} (h:De a b) (k:De b c):De a c:=fun he=>by
  obtain ⟨h1,h2⟩:=h he
  obtain ⟨k1,k2⟩:=k (by rw [h2]; exact he)
  exact ⟨k1.trans h1,k2.trans h2⟩
theorem Dd.rfl' {a:Cd}:Dd a a:=fun _=>⟨rfl,rfl⟩
theorem De.rfl' {a:RS}:De a a:=fun _=>⟨rfl,rfl⟩
section
variable {b:List Nat} {w e:Int} {c c0 c1:Cd} {r r0 r1:RS} {X X' X0:List Sg}
theorem numD_d {d:Dv} {e:Nat} {v n f:Int} (h:e≠0):numD d e v n f=(d,e,v):=by unfold numD; rw [if_pos h]
theorem flagD_d {d:Dv} {e:Nat} {v:Bool} (h:e≠0):(flagD d e v).1=d∧(flagD d e v).2.1=e:=by unfold flagD; rw [numD_d h]; exact ⟨rfl,rfl⟩
theorem dN {v n f:Int} {s:Int→Hd} (h:c=nF c0 v s n f):Dd c0 c:=fun he=>by rw [h]; unfold nF; rw [numD_d he]; exact ⟨rfl,rfl⟩
theorem dFl {v:Bool} {s:Bool→Hd} (h:c=fF c0 v s):Dd c0 c:=fun he=>by rw [h]; exact flagD_d he
theorem dDl {v:Int} {s:Int→Hd} (h:c=dF' c0 v s):Dd c0 c:=fun he=>by
  rw [h]
  unfold dF' deltaD
  rw [if_pos (.inr (by rw [(flagD_d he).2]; exact he))]
  exact flagD_d he
theorem dLg {v z:Int} {s:Int→Hd} (h:c=gF c0 v s z):Dd c0 c:=fun he=>by
  rw [h]
  unfold gF logD
  rw [numD_d he,if_neg (fun q=>he q.1)]
  exact ⟨rfl,rfl⟩
theorem getR_d {p e:Nat} {n:Int} (h:e≠0):getR b p e n=(p,e,0):=by unfold getR; rw [if_pos h]
theorem rN {n f:Int} {s:Int→Hd} (h:r=gI b r0 n f s):De r0 r:=fun he=>by rw [h]; unfold gI; rw [getR_d he]; exact ⟨rfl,rfl⟩
theorem rFl {s:Bool→Hd} (h:r=gB b r0 s):De r0 r:=fun he=>by rw [h]; unfold gB; rw [getR_d he]; exact ⟨rfl,rfl⟩
theorem rDl {s:Int→Hd} (h:r=gD b r0 s):De r0 r:=fun he=>by
  rw [h]
  unfold gD delR
  rw [getR_d he]
  exact ⟨rfl,rfl⟩
theorem rLg {z:Int} {s:Int→Hd} (h:r=gL b r0 s z):De r0 r:=fun he=>by
  rw [h]
  unfold gL logR
  rw [getR_d he]
  dsimp only
  rw [if_neg (fun q=>q.elim (fun q=>he q.1) fun q=>by omega)]
  exact ⟨rfl,rfl⟩
theorem sgsD_d {d:Dv} {e:Nat} (h:e≠0):∀ X:List Sg,sgsD d e X=(d,e,X)
  | []=>rfl
  | x::X=>by
    have:sg1 d e x=(d,e,x):=by unfold sg1; simp only [numD_d h]
    simp only [sgsD,this,sgsD_d h X]
theorem sgsR_d {p e:Nat} (h:e≠0):∀ n,(sgsR b n p e).1=p∧(sgsR b n p e).2.1=e
  | 0=>⟨rfl,rfl⟩
  | n+1=>by
    have:(sg1R b p e).1=p∧(sg1R b p e).2.1=e:=by unfold sg1R; simp [getR_d h]
    simp only [sgsR,this]
    exact sgsR_d h n
theorem StrT_d (h:StrT c0 X0 c X):Dd c0 c:=by
  obtain ⟨c1,h1,c2,h2,c3,X3,h3,h4,_⟩:=h
  refine (dN h1).trans ((dN h2).trans fun he=>?_)
  have q:c3=c2:=by
    split at h3
    · exact h3.1
    · rw [if_neg he] at h3; exact h3.1
  rw [h4,q,sgsD_d he]
  exact ⟨rfl,rfl⟩
theorem StrR_d (h:StrR b r0 r X):De r0 r:=by
  obtain ⟨r1,h1,r2,h2,⟨A,c,h3⟩,_⟩:=h
  refine (rN h1).trans ((rN h2).trans fun he=>?_)
  rw [h3]
  exact sgsR_d he _
theorem FiltT_d (h:FiltT c0 X0 c X):Dd c0 c:=by
  obtain ⟨c1,h1,c2,h2,c3,h3,c4,h4,c5,h5,c6,h6,c7,h7,c8,h8,c9,h9,h10⟩:=h
  have q7:Dd c6 c7:=by
    split at h7
    · exact StrT_d h7
    · rw [h7.1]; exact .rfl'
  exact (dN h1).trans ((dN h2).trans ((dN h3).trans ((dN h4).trans ((dN h5).trans ((dFl h6).trans (q7.trans ((dFl h8).trans ((dFl h9).trans (dFl h10)))))))))
theorem FiltR_d (h:FiltR b r0 r X):De r0 r:=by
  obtain ⟨c1,h1,c2,h2,c3,h3,c4,h4,c5,h5,c6,h6,c7,h7,c8,h8,c9,h9,h10⟩:=h
  have q7:De c6 c7:=by
    split at h7
    · exact StrR_d h7
    · rw [h7.1]; exact .rfl'
  exact (rN h1).trans ((rN h2).trans ((rN h3).trans ((rN h4).trans ((rN h5).trans ((rFl h6).trans (q7.trans ((rFl h8).trans ((rFl h9).trans (rFl h10)))))))))
theorem TailT_d (h:TailT w e c0 X0 c X):Dd c0 c:=by
  obtain ⟨c1,h1,c2,h2,c3,h3,c4,h4,c5,h5,c6,h6,c7,h7,c8,h8,h9⟩:=h
  have q9:Dd c8 c:=by
    split at h9
    · rw [h9.1]; exact .rfl'
    · exact FiltT_d h9
  exact (dDl h1).trans ((dDl h2).trans ((dDl h3).trans ((dDl h4).trans ((dDl h5).trans ((dLg h6).trans ((dLg h7).trans ((dFl h8).trans q9)))))))
theorem TailR_d (h:TailR b w e r0 r X):De r0 r:=by
  obtain ⟨c1,h1,c2,h2,c3,h3,c4,h4,c5,h5,c6,h6,c7,h7,c8,h8,h9⟩:=h
  have q9:De c8 r:=by
    split at h9
    · rw [h9.1]; exact .rfl'
    · exact FiltR_d h9
  exact (rDl h1).trans ((rDl h2).trans ((rDl h3).trans ((rDl h4).trans ((rDl h5).trans ((rLg h6).trans ((rLg h7).trans ((rFl h8).trans q9)))))))
theorem RefT_d (h:RefT c0 c):Dd c0 c:=by
  obtain ⟨c1,t,h1,h2⟩:=h
  have q1:Dd c0 c1:=by
    split at h1
    · rw [h1.1]; exact .rfl'
    · obtain ⟨c2,k2,c3,k3,c4,k4,k5,_⟩:=h1
      refine (dN k2).trans ((dN k3).trans ((dN k4).trans fun he=>?_))
      rw [k5]
      exact flagD_d he
  have q2:Dd c1 c:=by
    split at h2
    · exact dN h2
    · rw [h2]; exact fun _=>⟨rfl,rfl⟩
  exact q1.trans q2
theorem RefRR_d (h:RefRR b r0 r):De r0 r:=by
  unfold RefRR at h
  split at h
  · rw [h]; exact .rfl'
  · obtain ⟨r1,h1,r2,h2,r3,h3,r4,h4,h5⟩:=h
    have q4:De r3 r4:=fun he=>by rw [h4,getR_d he]; exact ⟨rfl,rfl⟩
    have q5:De r4 r:=by
      split at h5
      · exact rN h5
      · rw [h5]; exact .rfl'
    exact (rN h1).trans ((rN h2).trans ((rN h3).trans (q4.trans q5)))
theorem Rel.dead {π π':Hd→Hd} (R:Rel π b c0 r0) (hc:Dd c0 c) (hr:De r0 r) (he:r0.2.1≠0):Rel π' b c r:=by
  obtain ⟨a1,a2⟩:=hc (by rw [R.e]; exact he)
  obtain ⟨b1,b2⟩:=hr he
  exact ⟨by rw [a1,b1]; exact R.d,by rw [a2,b2]; exact R.e,fun h=>absurd (by rw [← b2]; exact h) he⟩
theorem Rel.dead2 {π π':Hd→Hd} (R:Rel π b c0 r0) (hc:Dd c0 c) (hr:De r0 r) (he:r0.2.1≠0) {P:Prop}:Rel π' b c r∧(r.2.1=0→P):=
  ⟨R.dead hc hr he,fun h=>absurd (by rw [← (hr he).2]; exact h) he⟩
theorem sgs_rel:∀ (X:List Sg) (p e:Nat),(sgsD (.r b p) e X).1=.r b (sgsR b X.length p e).1∧(sgsD (.r b p) e X).2.1=(sgsR b X.length p e).2.1∧((sgsR b X.length p e).2.1=0→e=0∧(sgsD (.r b p) e X).2.2=(sgsR b X.length p e).2.2)
  | [],p,e=>⟨rfl,rfl,fun h=>⟨h,rfl⟩⟩
  | x::X,p,e=>by
    have key:(sg1 (.r b p) e x).1=.r b (sg1R b p e).1∧(sg1 (.r b p) e x).2.1=(sg1R b p e).2.1∧((sg1R b p e).2.1=0→e=0∧(sg1 (.r b p) e x).2.2=(sg1R b p e).2.2):=by
      unfold sg1 sg1R
      dsimp only
      obtain ⟨a1,a2,a3⟩:=numD_r (b:=b) (p:=p) (e:=e) (v:=x.a) (n:=4) (f:=0)
      rw [a1,a2]
      have z1:=getR_err (b:=b) (p:=p) (e:=e) (n:=4)
      generalize getR b p e 4=g1 at *
      obtain ⟨b1,b2,b3⟩:=numD_r (b:=b) (p:=g1.1) (e:=g1.2.1) (v:=x.b) (n:=2) (f:=0)
      rw [b1,b2]
      have z2:=getR_err (b:=b) (p:=g1.1) (e:=g1.2.1) (n:=2)
      generalize getR b g1.1 g1.2.1 2=g2 at *
      obtain ⟨c1,c2,c3⟩:=numD_r (b:=b) (p:=g2.1) (e:=g2.2.1) (v:=x.c) (n:=4) (f:=0)
      rw [c1,c2]
      have z3:=getR_err (b:=b) (p:=g2.1) (e:=g2.2.1) (n:=4)
      generalize getR b g2.1 g2.2.1 4=g3 at *
      obtain ⟨d1,d2,d3⟩:=numD_r (b:=b) (p:=g3.1) (e:=g3.2.1) (v:=x.d) (n:=2) (f:=0)
      rw [d1,d2]
      have z4:=getR_err (b:=b) (p:=g3.1) (e:=g3.2.1) (n:=2)
      generalize getR b g3.1 g3.2.1 2=g4 at *
      refine ⟨rfl,rfl,fun h=>⟨z1 (z2 (z3 (z4 h))),?_⟩⟩
      rw [a3 (z2 (z3 (z4 h))),b3 (z3 (z4 h)),c3 (z4 h),d3 h]
      simp
    obtain ⟨k1,k2,k3⟩:=key
    obtain ⟨i1,i2,i3⟩:=sgs_rel X (sg1R b p e).1 (sg1R b p e).2.1
    simp only [sgsD,List.length_cons,sgsR]
    rw [k1,k2]
    refine ⟨i1,i2,fun h=>?_⟩
    obtain ⟨j1,j2⟩:=i3 h
    exact ⟨(k3 j1).1,by rw [j2,(k3 j1).2]⟩
theorem str_rel (R:Rel wo b c0 r0) (h:StrT c0 [] c X) (k:StrR b r0 r X'):Rel wo b c r∧(r.2.1=0→X=X'):=by
  obtain ⟨c1,h1,c2,h2,c3,X3,h3,h4,h5⟩:=h
  obtain ⟨r1,k1,r2,k2,⟨A,m,k3⟩,k4⟩:=k
  have R1:=R.n (fun h x=>congrArg (fun h:Hd=>{ h with da:=x }) h) h1 k1
  have R2:=R1.n (fun h x=>congrArg (fun h:Hd=>{ h with cb:=x }) h) h2 k2
  by_cases he:r2.2.1=0
  · have hc:=R2.h he
    have cb:c2.2.2.cb=r2.2.2.cb:=by have:=congrArg Hd.cb hc; exact this
    rw [R2.d] at h3
    dsimp only at h3
    rw [if_pos (by rw [R2.e]; exact he)] at h3
    obtain ⟨⟨A2,m2,h3⟩,h3'⟩:=h3
    obtain ⟨i1,i2,i3⟩:=sgs_rel (b:=b) X3 r2.1 r2.2.1
    have l3:X3.length=2 ^ r2.2.2.cb.toNat:=by rw [h3',List.length_replicate,cb]
    rw [l3] at i1 i2 i3
    rw [h3] at h4 h5
    dsimp only at h4 h5
    rw [R2.e] at h4 h5
    rw [h4,k3,h5,k4]
    refine ⟨⟨i1,i2,fun h0=>?_⟩,fun h0=>(i3 h0).2⟩
    exact congrArg (fun h:Hd=>{ h with A:=none,n:=0,c:=0 }) hc
  · have hd:Dd c2 c:=fun q=>by
      have q3:c3=c2:=by
        split at h3
        · exact h3.1
        · rw [if_neg q] at h3; exact h3.1
      rw [h4,q3,sgsD_d q]; exact ⟨rfl,rfl⟩
    have hr:De r2 r:=fun q=>by rw [k3]; exact sgsR_d q _
    exact R2.dead2 hd hr he
theorem filt_rel (R:Rel wo b c0 r0) (h:FiltT c0 [] c X) (k:FiltR b r0 r X'):Rel wo b c r∧(r.2.1=0→X=X'):=by
  obtain ⟨c1,h1,c2,h2,c3,h3,c4,h4,c5,h5,c6,h6,c7,h7,c8,h8,c9,h9,h10⟩:=h
  obtain ⟨r1,k1,r2,k2,r3,k3,r4,k4,r5,k5,r6,k6,r7,k7,r8,k8,r9,k9,k10⟩:=k
  have R1:=R.n (fun h x=>congrArg (fun h:Hd=>{ h with l0:=x }) h) h1 k1
  have R2:=R1.n (fun h x=>congrArg (fun h:Hd=>{ h with l1:=x }) h) h2 k2
  have R3:=R2.n (fun h x=>congrArg (fun h:Hd=>{ h with l2:=x }) h) h3 k3
  have R4:=R3.n (fun h x=>congrArg (fun h:Hd=>{ h with l3:=x }) h) h4 k4
  have R5:=R4.n (fun h x=>congrArg (fun h:Hd=>{ h with sp:=x }) h) h5 k5
  have R6:=R5.f (fun h x=>congrArg (fun h:Hd=>{ h with cd:=x }) h) h6 k6
  have R7:Rel wo b c7 r7∧(r7.2.1=0→X=X'):=by
    by_cases he:r6.2.1=0
    · have cd:c6.2.2.cd=r6.2.2.cd:=by have:=congrArg Hd.cd (R6.h he); exact this
      by_cases hc:r6.2.2.cd=true
      · rw [if_pos ⟨by rw [cd]; exact hc,by rw [R6.e]; exact he⟩] at h7
        rw [if_pos hc] at k7
        exact str_rel R6 h7 k7
      · rw [if_neg (fun q=>hc (by rw [← cd]; exact q.1))] at h7
        rw [if_neg hc] at k7
        rw [h7.1,k7.1,h7.2,k7.2]
        exact ⟨R6,fun _=>rfl⟩
    · refine R6.dead2 ?_ ?_ he
      · split at h7
        · exact StrT_d h7
        · rw [h7.1]; exact .rfl'
      · split at k7
        · exact StrR_d k7
        · rw [k7.1]; exact .rfl'
  have R8:=R7.1.f (fun h x=>congrArg (fun h:Hd=>{ h with x0:=x }) h) h8 k8
  have R9:=R8.f (fun h x=>congrArg (fun h:Hd=>{ h with x1:=x }) h) h9 k9
  have R10:=R9.f (fun h x=>congrArg (fun h:Hd=>{ h with x2:=x }) h) h10 k10
  refine ⟨R10,fun h0=>R7.2 ?_⟩
  refine Classical.byContradiction fun q=>?_
  have:=((rFl k8).trans ((rFl k9).trans (rFl k10))) q
  rw [this.2] at h0
  exact q h0
end
end Go.Zt

/- Layer 20: HeadsReads: a whole header. Plain. -/
set_option linter.unusedSimpArgs false
set_option linter.unusedVariables false
set_option maxRecDepth 100000
namespace Go.Zt
open Go Go.Sim Go.Proofs Go.RowKit
section
variable {b:List Nat} {w e:Int} {p:Nat} {c c0 c1:Cd} {r r0 r1:RS} {X X' X0:List Sg}
abbrev Hd.dz (h:Hd):Prop:=h.d0=0∧h.d1=0∧h.d2=0∧h.d3=0∧h.d4=0
theorem tail_rel (R:Rel wo b c0 r0) (hd:c0.2.2.dz) (h:TailT w e c0 [] c X) (k:TailR b w e r0 r X'):Rel wo b c r∧(r.2.1=0→X=X'):=by
  obtain ⟨c1,h1,c2,h2,c3,h3,c4,h4,c5,h5,c6,h6,c7,h7,c8,h8,h9⟩:=h
  obtain ⟨r1,k1,r2,k2,r3,k3,r4,k4,r5,k5,r6,k6,r7,k7,r8,k8,k9⟩:=k
  have R1:=R.dl hd.1 (fun h x=>congrArg (fun h:Hd=>{ h with d0:=x }) h) h1 k1
  have z1:c1.2.2.d1=0∧c1.2.2.d2=0∧c1.2.2.d3=0∧c1.2.2.d4=0:=by rw [h1]; exact hd.2
  have R2:=R1.dl z1.1 (fun h x=>congrArg (fun h:Hd=>{ h with d1:=x }) h) h2 k2
  have z2:c2.2.2.d2=0∧c2.2.2.d3=0∧c2.2.2.d4=0:=by rw [h2]; exact z1.2
  have R3:=R2.dl z2.1 (fun h x=>congrArg (fun h:Hd=>{ h with d2:=x }) h) h3 k3
  have z3:c3.2.2.d3=0∧c3.2.2.d4=0:=by rw [h3]; exact z2.2
  have R4:=R3.dl z3.1 (fun h x=>congrArg (fun h:Hd=>{ h with d3:=x }) h) h4 k4
  have z4:c4.2.2.d4=0:=by rw [h4]; exact z3.2
  have R5:=R4.dl z4 (fun h x=>congrArg (fun h:Hd=>{ h with d4:=x }) h) h5 k5
  have R6:=R5.l (fun h x=>congrArg (fun h:Hd=>{ h with co:=x }) h) h6 k6
  have R7:=R6.l (fun h x=>congrArg (fun h:Hd=>{ h with ro:=x }) h) h7 k7
  have R8:=R7.f (fun h x=>congrArg (fun h:Hd=>{ h with na:=x }) h) h8 k8
  by_cases he:r8.2.1=0
  · have hl:c8.2.2.less=r8.2.2.less:=by have:=congrArg Hd.less (R8.h he); exact this
    by_cases hc:r8.2.2.less=true
    · rw [if_pos (by rw [hl]; exact hc)] at h9
      rw [if_pos hc] at k9
      rw [h9.1,k9.1,h9.2,k9.2]
      exact ⟨R8,fun _=>rfl⟩
    · rw [if_neg (by rw [hl]; exact hc)] at h9
      rw [if_neg hc] at k9
      exact filt_rel R8 h9 k9
  · refine R8.dead2 ?_ ?_ he
    · split at h9
      · rw [h9.1]; exact .rfl'
      · exact FiltT_d h9
    · split at k9
      · rw [k9.1]; exact .rfl'
      · exact FiltR_d k9
theorem Rel.n' {π π':Hd→Hd} {c':Cd} {r':RS} (R:Rel π b c r) {v n f:Int} {s s':Int→Hd} (hs:π c.2.2=π r.2.2→∀ x,π' (s x)=π' (s' x)) (h1:c'=nF c v s n f) (h2:r'=gI b r n f s'):Rel π' b c' r':=by
  obtain ⟨a1,a2,a3⟩:=numD_r (b:=b) (p:=r.1) (e:=r.2.1) (v:=v) (n:=n) (f:=f)
  subst h1 h2
  refine ⟨?_,?_,fun h0=>?_⟩
  · show (numD c.1 c.2.1 v n f).1=_; rw [R.d,R.e]; exact a1
  · show (numD c.1 c.2.1 v n f).2.1=_; rw [R.d,R.e]; exact a2
  · show π' (s (numD c.1 c.2.1 v n f).2.2)=_
    rw [R.d,R.e,a3 h0]
    exact hs (R.h (getR_err h0)) _
theorem ref_rel {r5:RS} (R:Rel wo b c0 r0) (h5:r5=(r0.1,r0.2.1,{ r0.2.2 with pr := -1 })) (h:RefT c0 c) (k:RefRR b r5 r):Rel wo b c r:=by
  have d5:r5.1=r0.1∧r5.2.1=r0.2.1∧r5.2.2={ r0.2.2 with pr := -1 }:=by rw [h5]; exact ⟨rfl,rfl,rfl⟩
  by_cases he:r0.2.1=0
  · have hw:=R.h he
    have hk:c0.2.2.ke=r5.2.2.ke:=by rw [d5.2.2]; have:=congrArg Hd.ke hw; exact this
    obtain ⟨c1,t,h1,h2⟩:=h
    unfold RefRR at k
    by_cases hc:r5.2.2.ke=true
    · rw [if_pos (by rw [hk]; exact hc)] at h1
      rw [if_pos hc] at k
      obtain ⟨h1,ht⟩:=h1
      rw [ht,if_neg (by decide)] at h2
      rw [h2,k,h1,h5]
      exact ⟨R.d,R.e,fun _=>congrArg (fun h:Hd=>{ h with pr := -1 }) hw⟩
    · rw [if_neg (by rw [hk]; exact hc)] at h1
      rw [if_neg hc] at k
      obtain ⟨c2,h2',c3,h3,c4,h4,h5',ht⟩:=h1
      obtain ⟨r1,k1,r2,k2,r3,k3,r4,k4,k5⟩:=k
      have R5:Rel wop b c0 r5:=⟨by rw [d5.1]; exact R.d,by rw [d5.2.1]; exact R.e,fun _=>by rw [d5.2.2]; exact congrArg (fun h:Hd=>{ h with pr:=0 }) hw⟩
      have R1:=R5.n (fun h x=>congrArg (fun h:Hd=>{ h with r0:=x }) h) h2' k1
      have R2:=R1.n (fun h x=>congrArg (fun h:Hd=>{ h with r1:=x }) h) h3 k2
      have R3:=R2.n (fun h x=>congrArg (fun h:Hd=>{ h with r2:=x }) h) h4 k3
      have p3:r3.2.2.pr = -1:=by rw [k3,k2,k1,h5]; rfl
      obtain ⟨a1,a2,a3⟩:=flagD_r (b:=b) (p:=r3.1) (e:=r3.2.1) (v:=decide (c0.2.2.pr ≥ 0))
      have R4:Rel wop b c1 r4:=by
        rw [h5',k4]
        refine ⟨?_,?_,fun h0=>R3.h (getR_err h0)⟩
        · show (flagD c4.1 c4.2.1 _).1=_; rw [R3.d,R3.e]; exact a1
        · show (flagD c4.1 c4.2.1 _).2.1=_; rw [R3.d,R3.e]; exact a2
      by_cases h40:r4.2.1=0
      · have g0:(getR b r3.1 r3.2.1 1).2.1=0:=by rw [k4] at h40; exact h40
        have ht':t=((getR b r3.1 r3.2.1 1).2.2 == 1):=by rw [ht,R3.d,R3.e]; exact a3 g0
        by_cases hq:(getR b r3.1 r3.2.1 1).2.2=1
        · rw [if_pos hq] at k5
          rw [if_pos (by rw [ht',hq]; rfl)] at h2
          exact R4.n' (π':=wo) (fun h x=>congrArg (fun h:Hd=>{ h with pr:=x }) h) h2 k5
        · rw [if_neg hq] at k5
          rw [if_neg (by rw [ht']; simpa using hq)] at h2
          rw [h2,k5]
          refine ⟨R4.d,R4.e,fun _=>?_⟩
          have p4:r4.2.2.pr = -1:=by rw [k4]; exact p3
          have:=congrArg (fun h:Hd=>{ h with pr := -1 }) (R4.h h40)
          refine this.trans ?_
          rw [← p4]; rfl
      · refine R4.dead ?_ ?_ h40
        · split at h2
          · exact dN h2
          · rw [h2]; exact fun _=>⟨rfl,rfl⟩
        · split at k5
          · exact rN k5
          · rw [k5]; exact .rfl'
  · have R5:Rel (fun _=>zH) b c0 r5:=⟨by rw [d5.1]; exact R.d,by rw [d5.2.1]; exact R.e,fun _=>rfl⟩
    exact R5.dead (RefT_d h) (RefRR_d k) (by rw [d5.2.1]; exact he)
theorem RefT.dz (h:RefT c0 c) (hd:c0.2.2.dz):c.2.2.dz:=by
  obtain ⟨c1,t,h1,h2⟩:=h
  have q1:c1.2.2.dz:=by
    split at h1
    · rw [h1.1]; exact hd
    · obtain ⟨c2,k2,c3,k3,c4,k4,k5,_⟩:=h1
      rw [k5,k4,k3,k2]; exact hd
  split at h2
  · rw [h2]; exact q1
  · rw [h2]; exact q1
theorem head_rel (h:HeadT w e (.r b p,0,zP) [] c X) (k:HeadR b w e (p,0,zH) r X'):Rel wo b c r∧(r.2.1=0→X=X'):=by
  obtain ⟨c1,h1,h⟩:=h
  obtain ⟨r1,k1,k⟩:=k
  have R0:Rel wo b (.r b p,0,zP) (p,0,zH):=⟨rfl,rfl,fun _=>rfl⟩
  have R1:=R0.f (fun h x=>congrArg (fun h:Hd=>{ h with ex:=x }) h) h1 k1
  by_cases he:r1.2.1=0
  · have hx:c1.2.2.ex=r1.2.2.ex:=by have:=congrArg Hd.ex (R1.h he); exact this
    by_cases hc:r1.2.2.ex=true
    · rw [if_pos (by rw [hx]; exact hc)] at h
      rw [if_pos hc] at k
      rw [h.2,k.2]
      exact ⟨R1.n (fun h x=>congrArg (fun h:Hd=>{ h with sl:=x }) h) h.1 k.1,fun _=>rfl⟩
    · rw [if_neg (by rw [hx]; exact hc)] at h
      rw [if_neg hc] at k
      obtain ⟨c2,h2,c3,h3,c4,h4,c5,h5,c6,h6,h7⟩:=h
      obtain ⟨r2,k2,r3,k3,r4,k4,r5,k5,r6,k6,r7,k7,k8⟩:=k
      have R2:=R1.f (fun h x=>congrArg (fun h:Hd=>{ h with sh:=x }) h) h2 k2
      have R3:=R2.f (fun h x=>congrArg (fun h:Hd=>{ h with ke:=x }) h) h3 k3
      have R4:=R3.n (fun h x=>congrArg (fun h:Hd=>{ h with rf:=x }) h) h4 k4
      have R6:=ref_rel R4 k5 h5 k6
      have R7:=R6.n (fun h x=>congrArg (fun h:Hd=>{ h with ba:=x }) h) h6 k7
      have d4:c4.2.2.dz:=by rw [h4,h3,h2,h1]; exact ⟨rfl,rfl,rfl,rfl,rfl⟩
      have d6:c6.2.2.dz:=by rw [h6]; exact h5.dz d4
      exact tail_rel R7 d6 h7 k8
  · refine R1.dead2 ?_ ?_ he
    · split at h
      · exact dN h.1
      · obtain ⟨c2,h2,c3,h3,c4,h4,c5,h5,c6,h6,h7⟩:=h
        exact (dFl h2).trans ((dFl h3).trans ((dN h4).trans ((RefT_d h5).trans ((dN h6).trans (TailT_d h7)))))
    · split at k
      · exact rN k.1
      · obtain ⟨r2,k2,r3,k3,r4,k4,r5,k5,r6,k6,r7,k7,k8⟩:=k
        have q5:De r4 r5:=by rw [k5]; exact fun _=>⟨rfl,rfl⟩
        exact (rFl k2).trans ((rFl k3).trans ((rN k4).trans (q5.trans ((RefRR_d k6).trans ((rN k7).trans (TailR_d k8))))))
end
end Go.Zt

/- Layer 20: HeadsReads: the document's Read,from the start. -/
set_option linter.unusedSimpArgs false
set_option linter.unusedVariables false
set_option maxRecDepth 100000
namespace Go.Zt
open Go Go.Sim Go.Proofs Go.RowKit
section
variable {S:Nat→Prop} {M N M0:Mem} {jr jq jh ja jb jx js jw lo p:Nat} {b:List Nat} {r:RS} {w e:Int} {T:RS→List Sg→Prop}
theorem e36_1 {zz:Array Value} {lw:Nat} (hw:16≤w∧w≤256) (he:16≤e∧e≤256) (E:Ch jr jq jh lo M0 M) (R:Rm S M jr jq jh b r) (hx:M0.nb[jx]?=some (.cells zz 41)) (zs:zz.size=30) (nx:jx<lo∧jx≠jr∧jx≠jq∧jx≠jh) (fx:M0.floor≤jx) (sx:¬ S jx) (ge:lw≤jx∧lw≤jr∧lw≤jh∧lw≤lo) (lM:lo≤M0.nb.size)
    (sw:M0.nb[jw]?=some (.cells #[.int .i64 w,.int .i64 e] 23)) (nw:jw<lo∧jw≠jr∧jw≠jq∧jw≠jh) (hA:r.2.2.A=none∧r.2.2.n=0∧r.2.2.c=0) (hk:r.2.2.ke=false) (hT:∀ r6 r7 r' X,RefRR b r r6→r7=gI b r6 8 0 (fun x=>{ r6.2.2 with ba:=x })→TailR b w e r7 r' X→T r' X):
    A36_1 (some ⟨2*jw,0,none⟩) (some ⟨2*jx,0,none⟩) (some ⟨2*jr,0,none⟩) (some ⟨2*jh,0,none⟩) 0 M (TolR S b jq lw M0 T):=by
  refine w36_1 (cT (by decide) (iK0 E R (n:=3) (by decide) (by decide) (o:=5) (fun x=>{ r.2.2 with r0:=x }) (by decide) (fun _=>rfl) (fun _ _ h=>ad rfl (ix (x:=⟨2*jh,5,none⟩) (by kernel_rfl) h)) fun N1 r1 h1 E1 R1=>?_))
  refine w36_1 (cT (by decide) (iK0 E1 R1 (n:=3) (by decide) (by decide) (o:=6) (fun x=>{ r1.2.2 with r1:=x }) (by decide) (fun _=>rfl) (fun _ _ h=>ad rfl (ix (x:=⟨2*jh,6,none⟩) (by kernel_rfl) h)) fun N2 r2 h2 E2 R2=>?_))
  refine w36_1 (cT (by decide) (iK0 E2 R2 (n:=3) (by decide) (by decide) (o:=7) (fun x=>{ r2.2.2 with r2:=x }) (by decide) (fun _=>rfl) (fun _ _ h=>ad rfl (ix (x:=⟨2*jh,7,none⟩) (by kernel_rfl) h)) fun N3 r3 h3 E3 R3=>?_))
  refine w36_1 (cF (by decide) (Cn.mono (c68 R3 (by decide) (by decide)) ?_))
  rintro _ N4 ⟨rfl,C4,z4,R4⟩
  have E4:Ch jr jq jh lo M0 N4:=E3.trans (C4.mono fun i _ h=>.inl (h.imp id .inl))
  have q1:r1.2.2.A=r.2.2.A∧r1.2.2.n=r.2.2.n∧r1.2.2.c=r.2.2.c:=by rw [h1]; exact ⟨rfl,rfl,rfl⟩
  have q2:r2.2.2.A=r1.2.2.A∧r2.2.2.n=r1.2.2.n∧r2.2.2.c=r1.2.2.c:=by rw [h2]; exact ⟨rfl,rfl,rfl⟩
  have q3:r3.2.2.A=r2.2.2.A∧r3.2.2.n=r2.2.2.n∧r3.2.2.c=r2.2.2.c:=by rw [h3]; exact ⟨rfl,rfl,rfl⟩
  have Q3:r3.2.2.A=none∧r3.2.2.n=0∧r3.2.2.c=0:=⟨by rw [q3.1,q2.1,q1.1,hA.1],by rw [q3.2.1,q2.2.1,q1.2.1,hA.2.1],by rw [q3.2.2,q2.2.2,q1.2.2,hA.2.2]⟩
  generalize hr4:(((getR b r3.1 r3.2.1 1).1,(getR b r3.1 r3.2.1 1).2.1,r3.2.2):RS)=r4 at R4
  have Q4:r4.2.2.A=none∧r4.2.2.n=0∧r4.2.2.c=0:=by rw [← hr4]; exact Q3
  refine ty rfl (cn (fun hc=>?_) fun hc=>?_)
  · refine iK0 E4 R4 (n:=3) (by decide) (by decide) (o:=8) (fun x=>{ r4.2.2 with pr:=x }) (by decide) (fun _=>rfl) (fun _ _ h=>ad rfl h) fun N5 r5 h5 E5 R5=>?_
    refine iK0 E5 R5 (n:=8) (by decide) (by decide) (o:=9) (fun x=>{ r5.2.2 with ba:=x }) (by decide) (fun _=>rfl) (fun _ _ h=>ad rfl h) fun N6 r6 h6 E6 R6=>?_
    have Q6:r6.2.2.A=none∧r6.2.2.n=0∧r6.2.2.c=0:=by rw [h6,h5]; exact Q4
    refine e36_2 (lw:=lw) hw he E6 R6 hx zs nx fx sx ge lM sw nw Q6 fun r' X ht=>hT r5 r6 r' X ?_ h6 ht
    unfold RefRR
    rw [if_neg (by rw [hk]; decide)]
    refine ⟨r1,h1,r2,h2,r3,h3,r4,hr4.symm,?_⟩
    rw [if_pos (by simp only [beq_iff_eq] at hc; omega)]
    exact h5
  · refine iK0 E4 R4 (n:=8) (by decide) (by decide) (o:=9) (fun x=>{ r4.2.2 with ba:=x }) (by decide) (fun _=>rfl) (fun _ _ h=>ad rfl h) fun N6 r6 h6 E6 R6=>?_
    have Q6:r6.2.2.A=none∧r6.2.2.n=0∧r6.2.2.c=0:=by rw [h6]; exact Q4
    refine e36_2 (lw:=lw) hw he E6 R6 hx zs nx fx sx ge lM sw nw Q6 fun r' X ht=>hT r4 r6 r' X ?_ h6 ht
    unfold RefRR
    rw [if_neg (by rw [hk]; decide)]
    refine ⟨r1,h1,r2,h2,r3,h3,r4,hr4.symm,?_⟩
    rw [if_neg (fun hh=>by rw [hh] at hc; exact absurd hc (by decide))]
set_option maxHeartbeats 1000000 in
theorem c36 (D:RefR S M jq b p) (fq:M.floor≤jq) (fs:M.floor≤M.nb.size) (su:∀ i,S i→i<jq):
    Cn Try.prog 36 #[PtrB jq,.agg #[.int .i64 w,.int .i64 e]] M (if mayS w e=true then TolR S b jq M.nb.size M (HeadR b w e (p,0,zH)) else fun v N=>v=.tuple #[.agg zH.cs,.int .i64 2]∧Chg (fun i=>i=jq∨M.nb.size≤i) M N∧RefR S N jq b p):=by
  have lq:jq<M.nb.size:=by obtain ⟨A,c,g,_⟩:=D.ex; exact lt_of_at g
  have a:=Mem.new_at M (.cells #[.int .i64 w,.int .i64 e] 23)
  have K1:Keep M (M.new (.cells #[.int .i64 w,.int .i64 e] 23)):=.new _ _
  have s1:=Mem.new_size M (.cells #[.int .i64 w,.int .i64 e] 23)
  refine w36_0 ?_
  generalize M.new (.cells #[.int .i64 w,.int .i64 e] 23)=M1 at a K1 s1 ⊢
  have bz:=Mem.new_at M1 (.cells zH.cs 41)
  have K2:Keep M1 (M1.new (.cells zH.cs 41)):=.new _ _
  have s2:=Mem.new_size M1 (.cells zH.cs 41)
  have a2:=at_keep a K2
  show onS ((M1.new (.cells zH.cs 41)).intAt .i64 (2*M.nb.size) 0) _
  generalize M1.new (.cells zH.cs 41)=M2 at bz K2 s2 a2 ⊢
  have T2:=K1.trans K2
  refine on (int_of (i:=0) a2 rfl) (on (int_of (i:=0+1) a2 rfl) (Cn.mono c15 ?_))
  rintro _ M3 ⟨rfl,K3⟩
  have T3:=T2.trans K3
  have a3:=at_keep a2 K3
  have b3:=at_keep bz K3
  have f3:M3.floor≤M.nb.size:=by rw [T3.floor]; exact fs
  have z3:=K3.size
  have nS:∀ i,M.nb.size≤i→¬ S i:=fun i hi h=>by have:=su _ h; omega
  refine ty rfl (cne (fun hm=>?_) fun hm=>?_)
  · have hm':mayS w e=false:=by
      unfold chkS at hm
      cases h:mayS w e
      · rfl
      · rw [h] at hm; exact absurd rfl hm
    have e2:chkS w e=2:=by unfold chkS; rw [hm']; rfl
    rw [hm']
    refine stA (cs:=zH.cs) b3 (by omega) rfl rfl rfl fun M4 C4 z4 u4=>ldA u4 rfl ⟨rfl,(T3.mono fun i _ h=>h.elim).trans (C4.mono fun i _ h=>by omega),(D.keep T3).chg C4 (by omega) fun i hi h=>nS _ (by omega) hi⟩
  · have hm':mayS w e=true:=by
      unfold chkS at hm
      cases h:mayS w e
      · rw [h] at hm; cases hm
      · rfl
    rw [if_pos hm']
    have hmm:=of_decide_eq_true hm'
    have hw:16≤w∧w≤256:=⟨hmm.1,hmm.2.1⟩
    have he:16≤e∧e≤256:=⟨hmm.2.2.1,hmm.2.2.2.1⟩
    have rA:=Mem.new_at M3 (.cells #[PtrB jq,.int .i64 0] 109)
    have K4:Keep M3 (M3.new (.cells #[PtrB jq,.int .i64 0] 109)):=.new _ _
    have s4:=Mem.new_size M3 (.cells #[PtrB jq,.int .i64 0] 109)
    generalize M3.new (.cells #[PtrB jq,.int .i64 0] 109)=M4 at rA K4 s4 ⊢
    have hA:=Mem.new_at M4 (.cells zH.cs 41)
    have K5:Keep M4 (M4.new (.cells zH.cs 41)):=.new _ _
    have s5:=Mem.new_size M4 (.cells zH.cs 41)
    have rA5:=at_keep rA K5
    show Cn Try.prog 68 _ (M4.new (.cells zH.cs 41)) _
    generalize M4.new (.cells zH.cs 41)=M5 at hA K5 s5 rA5 ⊢
    have K35:=K4.trans K5
    have T5:=T3.trans K35
    have a5:=at_keep a3 K35
    have b5:=at_keep b3 K35
    have f5:M5.floor≤M.nb.size:=by rw [T5.floor]; exact fs
    have R0:Rm S M5 M3.nb.size jq M4.nb.size b (p,0,zH):=⟨D.keep T5,rA5,hA,by omega,by omega,by omega,nS _ (by omega),nS _ (by omega),by omega,by rw [T5.floor]; exact fq,by omega,by omega,su⟩
    have back:∀ {v:Value} {N:Mem},TolR S b jq M.nb.size M5 (HeadR b w e (p,0,zH)) v N→TolR S b jq M.nb.size M (HeadR b w e (p,0,zH)) v N:=fun ⟨r,X,t1,t2,t3⟩=>⟨r,X,t1,(T5.mono fun i _ h=>h.elim).trans t2,t3⟩
    have d0:M.nb.size<M1.nb.size∧M1.nb.size<M3.nb.size∧M3.nb.size<M4.nb.size∧M4.nb.size<M5.nb.size:=by omega
    generalize M3.nb.size=jr at R0 d0 ⊢
    generalize M4.nb.size=jh at R0 d0 ⊢
    generalize hjw:M.nb.size=jw at *
    generalize M1.nb.size=jx at b5 d0 ⊢
    refine bK (lo:=M5.nb.size) (.refl M5) R0 (o:=0) (fun x=>{ zH with ex:=x }) (by decide) (fun _=>rfl) (fun _ _ h=>h) fun N1 r1 h1 E1 R1=>on (bool_of R1.hd rfl) (cn (fun hx=>?_) fun hx=>?_)
    · refine iK0 E1 R1 (n:=3) (by decide) (by decide) (o:=1) (fun x=>{ r1.2.2 with sl:=x }) (by decide) (fun _=>rfl) (fun _ _ h=>h) fun N2 r2 h2 E2 R2=>?_
      have Q2:r2.2.2.n=0∧r2.2.2.A=none:=by rw [h2,h1]; exact ⟨rfl,rfl⟩
      exact end36 (T:=HeadR b w e (p,0,zH)) (lw:=jw) (fun v N h=>back h) E2 R2 b5 rfl (by omega) (by omega) (nS _ (by omega)) (by omega) (X:=[]) ⟨r1,h1,by rw [if_pos hx]; exact ⟨h2,rfl⟩⟩ Q2.1 (fun i hi=>by simp [Sgs] at hi) fun a ha=>by rw [Q2.2] at ha; cases ha
    · refine bK E1 R1 (o:=2) (fun x=>{ r1.2.2 with sh:=x }) (by decide) (fun _=>rfl) (fun _ _ h=>h) fun N2 r2 h2 E2 R2=>bK E2 R2 (o:=3) (fun x=>{ r2.2.2 with ke:=x }) (by decide) (fun _=>rfl) (fun _ _ h=>h) fun N3 r3 h3 E3 R3=>iK0 E3 R3 (n:=8) (by decide) (by decide) (o:=4) (fun x=>{ r3.2.2 with rf:=x }) (by decide) (fun _=>rfl) (fun _ _ h=>h) fun N4 r4 h4 E4 R4=>?_
      obtain ⟨N5,p5,C5,z5,R5⟩:=R4.set (o:=8) (v:=.int .i64 (-1)) (by decide) rfl (h':={ r4.2.2 with pr := -1 }) rfl
      have E5:Ch jr jq jh M5.nb.size M5 N5:=E4.trans (C5.mono fun i _ h=>.inl (.inr (.inr h)))
      generalize hr5:((r4.1,r4.2.1,{ r4.2.2 with pr := -1 }):RS)=r5 at R5
      have Q5:r5.2.2.A=none∧r5.2.2.n=0∧r5.2.2.c=0:=by rw [← hr5,h4,h3,h2,h1]; exact ⟨rfl,rfl,rfl⟩
      refine pt p5 (on (bool_of R5.hd rfl) (cnn (fun hk=>?_) fun hk=>?_))
      · refine LvP.mono (e36_1 (zz:=zH.cs) (T:=HeadR b w e (p,0,zH)) (lw:=jw) hw he E5 R5 b5 rfl (by omega) (by omega) (nS _ (by omega)) (by omega) (Nat.le_refl _) a5 (by omega) Q5 hk fun r6 r7 r' X g6 g7 gT=>⟨r1,h1,?_⟩) fun v N h=>back h
        rw [if_neg (by rw [hx]; decide)]
        exact ⟨r2,h2,r3,h3,r4,h4,r5,hr5.symm,r6,g6,r7,g7,gT⟩
      · refine iK0 E5 R5 (n:=8) (by decide) (by decide) (o:=9) (fun x=>{ r5.2.2 with ba:=x }) (by decide) (fun _=>rfl) (fun _ _ h=>h) fun N6 r6 h6 E6 R6=>?_
        have Q6:r6.2.2.A=none∧r6.2.2.n=0∧r6.2.2.c=0:=by rw [h6]; exact Q5
        refine LvP.mono (e36_2 (zz:=zH.cs) (T:=HeadR b w e (p,0,zH)) (lw:=jw) hw he E6 R6 b5 rfl (by omega) (by omega) (nS _ (by omega)) (by omega) (Nat.le_refl _) a5 (by omega) Q6 fun r' X gT=>⟨r1,h1,?_⟩) fun v N h=>back h
        rw [if_neg (by rw [hx]; decide)]
        exact ⟨r2,h2,r3,h3,r4,h4,r5,hr5.symm,r5,by unfold RefRR; rw [if_pos hk],r6,h6,gT⟩
end
end Go.Zt

/- The functions' walks: for each function and each loop a rule of what it comes to. Printed by zw2.py. -/
set_option linter.unusedVariables false
set_option maxRecDepth 100000
namespace Go.Zt
open Go Go.Sim Go.Proofs
def tyZlH0:List Sc:=[.bool,.int .i64,.bool,.bool,.int .i64,.int .i64,.int .i64,.int .i64,.int .i64,.int .i64,.int .i64,.int .i64,.int .i64,.int .i64,.int .i64,.int .i64,.int .i64,.bool,.int .i64,.int .i64,.int .i64,.int .i64,.int .i64,.bool,.int .i64,.int .i64,.sl,.bool,.bool,.bool]
def K5:List (List It × List Nat):=[([.rg [1,1,1,1,1,1,1,1,1,0] 9,.code [1,1,1,1,1,1,1,1,1,1]],[7,8,48]),([.rg [1,1,1,1,1,1,1,1,1,0] 16,.code [1,1,1,1,1,1,1,1,1,1]],[55])]
def Z5:List (List Nat × List Nat):=[([1,1,1,1,1,1,1,1,1,0],[9,16,19])]
theorem b5:Try.prog.funcs[5]?=some Try.f5∧(Orc.tab Try.prog).lookup 5=none∧Try.f5.body=some (codeOf Try.f5):=⟨by kernel_rfl,by kernel_rfl,by kernel_rfl⟩
def A5_1 (x7 x8:Option Addr) (x48:Bool) (M:Mem) (Q:Value→Mem→Prop):Prop:=LvP Try.prog Try.f5 [(7,.pointer x7),(8,.pointer x8),(48,.bool x48)] [.rg [1,1,1,1,1,1,1,1,1,0] 9,.code [1,1,1,1,1,1,1,1,1,1]] M Q
def A5_2 (x55:Bool) (M:Mem) (Q:Value→Mem→Prop):Prop:=LvP Try.prog Try.f5 [(55,.bool x55)] [.rg [1,1,1,1,1,1,1,1,1,0] 16,.code [1,1,1,1,1,1,1,1,1,1]] M Q
theorem w5_0 {Ax0:Option Addr} {lx0 cx0:Nat} {x1_0 x1_1 x2:Int} {M:Mem} {Q:Value→Mem→Prop} (H:
 Cn Try.prog 31 #[.slice Ax0 lx0 cx0] (M.new (.cells #[.int .i64 x1_0,.int .i64 x1_1] 23)) fun v1' N1'=>
 tyS (asP v1') fun p2'=>
 Cn Try.prog 32 #[.slice Ax0 lx0 cx0] N1' fun v3' N3'=>
 tyS (asP v3') fun p4'=>
 cnd p2'.isNone (
 Q (.bool false) N3') (
 Cn Try.prog 21 #[.int .i64 x2,.int .i64 9] N3' fun v5' N5'=>
 tyS (asI .i64 v5') fun x6'=>
 Cn Try.prog 33 #[.pointer p2',.int .i64 x6'] N5' fun v7' N7'=>
 tyS (asU 2 v7') fun cs8'=>
 tyS (asI .u32 (cs8'.getD 0 undef)) fun x9'=>
 tyS (asI .i64 (cs8'.getD 1 undef)) fun x10'=>
 Cn Try.prog 34 #[.pointer p4',.int .i64 x6'] N7' fun v11' N11'=>
 tyS (asU 2 v11') fun cs12'=>
 tyS (asI .u32 (cs12'.getD 0 undef)) fun x13'=>
 tyS (asI .i64 (cs12'.getD 1 undef)) fun x14'=>
 onS (N11'.intAt .i64 (2*M.nb.size) 0) fun x15'=>
 onS (N11'.intAt .i64 (2*M.nb.size) (0+1)) fun x16'=>
 Cn Try.prog 35 #[.pointer p2',.agg #[.int .i64 x15',.int .i64 x16']] N11' fun v17' N17'=>
 tyS (asU 2 v17') fun cs18'=>
 tyS (asA 30 (cs18'.getD 0 undef)) fun cs19'=>
 asCellsP tyZlH0 0 cs19' fun vs20'=>
 tyS (asI .i64 (cs18'.getD 1 undef)) fun x21'=>
 tyS (asA 30 (.agg vs20'.toArray)) fun cs22'=>
 asCellsP tyZlH0 0 cs22' fun vs23'=>
 stP (some 30) vs23'.toArray (N17'.new (.cells #[.bool false,.int .i64 0,.bool false,.bool false,.int .i64 0,.int .i64 0,.int .i64 0,.int .i64 0,.int .i64 0,.int .i64 0,.int .i64 0,.int .i64 0,.int .i64 0,.int .i64 0,.int .i64 0,.int .i64 0,.int .i64 0,.bool false,.int .i64 0,.int .i64 0,.int .i64 0,.int .i64 0,.int .i64 0,.bool false,.int .i64 0,.int .i64 0,.slice none 0 0,.bool false,.bool false,.bool false] 41)) (2*N17'.nb.size) 0 fun M24'=>
 onS (M24'.intAt .i64 (2*M.nb.size) 0) fun x25'=>
 onS (M24'.intAt .i64 (2*M.nb.size) (0+1)) fun x26'=>
 Cn Try.prog 36 #[.pointer p4',.agg #[.int .i64 x25',.int .i64 x26']] M24' fun v27' N27'=>
 tyS (asU 2 v27') fun cs28'=>
 tyS (asA 30 (cs28'.getD 0 undef)) fun cs29'=>
 asCellsP tyZlH0 0 cs29' fun vs30'=>
 tyS (asI .i64 (cs28'.getD 1 undef)) fun x31'=>
 tyS (asA 30 (.agg vs30'.toArray)) fun cs32'=>
 asCellsP tyZlH0 0 cs32' fun vs33'=>
 stP (some 30) vs33'.toArray (N27'.new (.cells #[.bool false,.int .i64 0,.bool false,.bool false,.int .i64 0,.int .i64 0,.int .i64 0,.int .i64 0,.int .i64 0,.int .i64 0,.int .i64 0,.int .i64 0,.int .i64 0,.int .i64 0,.int .i64 0,.int .i64 0,.int .i64 0,.bool false,.int .i64 0,.int .i64 0,.int .i64 0,.int .i64 0,.int .i64 0,.bool false,.int .i64 0,.int .i64 0,.slice none 0 0,.bool false,.bool false,.bool false] 41)) (2*N27'.nb.size) 0 fun M34'=>
 cnd (x21' == x31') (
 ldP tyZlH0 M34' (2*N17'.nb.size) 0 fun vs35'=>
 ldP tyZlH0 M34' (2*N27'.nb.size) 0 fun vs36'=>
 Cn Try.prog 30 #[.agg vs35'.toArray,.agg vs36'.toArray] M34' fun v37' N37'=>
 tyS (asB v37') fun b38'=>
 A5_1 p2' p4' b38' N37' Q) (
 A5_1 p2' p4' false M34' Q))):
 Cn Try.prog 5 #[.slice Ax0 lx0 cx0,.agg #[.int .i64 x1_0,.int .i64 x1_1],.int .i64 x2] M Q:=
 Cn.mk (cuts:=K5) (sp:=Z5) 900 b5 rfl rfl H fun G=>by kernel_rfl
theorem w5_1 {x7 x8:Option Addr} {x48:Bool} {M:Mem} {Q:Value→Mem→Prop} (H:
 cnd x48 (
 Cn Try.prog 37 #[.pointer x7] M fun v39' N39'=>
 tyS (asI .i64 v39') fun x40'=>
 Cn Try.prog 38 #[.pointer x8] N39' fun v41' N41'=>
 tyS (asI .i64 v41') fun x42'=>
 A5_2 (x40' == x42') N41' Q) (
 A5_2 false M Q)):
 A5_1 x7 x8 x48 M Q:=
 LvP.mk (cuts:=K5) (sp:=Z5) 900 H fun G=>by kernel_rfl
theorem w5_2 {x55:Bool} {M:Mem} {Q:Value→Mem→Prop} (H:
 cnd x55 (
 Cn Try.prog 17 #[] M fun v43' N43'=>
 tyS (asB v43') fun b44'=>
 Q (.bool b44') N43') (
 Q (.bool false) M)):
 A5_2 x55 M Q:=
 LvP.mk (cuts:=K5) (sp:=Z5) 900 H fun G=>by kernel_rfl
end Go.Zt

/- Layer 20: HeadsReads: the law. -/
set_option linter.unusedSimpArgs false
set_option linter.unusedVariables false
set_option maxRecDepth 100000
namespace Go.Zt
open Go Go.Sim Go.Proofs Go.RowKit
section
variable {U S:Nat→Prop} {M N M0:Mem} {jd jq p:Nat} {b:List Nat} {w e:Int} {h g:Hd} {X Y:List Sg}
def Dv.bk:Dv→Option (List Nat)
  | .w _=>none
  | .r b _=>some b
theorem numD_bk (d:Dv) (e:Nat) (v n f:Int):(numD d e v n f).1.bk=d.bk:=by
  unfold numD; split
  · rfl
  · cases d <;> rfl
theorem flagD_bk (d:Dv) (e:Nat) (v:Bool):(flagD d e v).1.bk=d.bk:=numD_bk ..
theorem deltaD_bk (d:Dv) (e:Nat) (v:Int):(deltaD d e v).1.bk=d.bk:=by
  rw [← flagD_bk d e (v != 0)]
  unfold deltaD; split
  · rfl
  · cases (flagD d e (v != 0)).1 <;> rfl
theorem logD_bk (d:Dv) (e:Nat) (v s:Int):(logD d e v s).1.bk=d.bk:=by
  rw [← numD_bk d e v 2 0]
  unfold logD; split <;> rfl
theorem RefT.keepB {c c':Cd} (h:RefT c c'):c'.2.2.n=c.2.2.n∧c'.2.2.A=c.2.2.A∧c'.1.bk=c.1.bk:=by
  obtain ⟨c1,t,h1,h2⟩:=h
  have g1:c1.2.2.n=c.2.2.n∧c1.2.2.A=c.2.2.A∧c1.1.bk=c.1.bk:=by
    split at h1
    · rw [h1.1]; exact ⟨rfl,rfl,rfl⟩
    · obtain ⟨c2,k2,c3,k3,c4,k4,k5,_⟩:=h1
      have q2:c2.2.2.n=c.2.2.n∧c2.2.2.A=c.2.2.A∧c2.1.bk=c.1.bk:=by rw [k2]; exact ⟨rfl,rfl,numD_bk ..⟩
      have q3:c3.2.2.n=c2.2.2.n∧c3.2.2.A=c2.2.2.A∧c3.1.bk=c2.1.bk:=by rw [k3]; exact ⟨rfl,rfl,numD_bk ..⟩
      have q4:c4.2.2.n=c3.2.2.n∧c4.2.2.A=c3.2.2.A∧c4.1.bk=c3.1.bk:=by rw [k4]; exact ⟨rfl,rfl,numD_bk ..⟩
      have q5:c1.2.2.n=c4.2.2.n∧c1.2.2.A=c4.2.2.A∧c1.1.bk=c4.1.bk:=by rw [k5]; exact ⟨rfl,rfl,flagD_bk ..⟩
      exact ⟨by rw [q5.1,q4.1,q3.1,q2.1],by rw [q5.2.1,q4.2.1,q3.2.1,q2.2.1],by rw [q5.2.2,q4.2.2,q3.2.2,q2.2.2]⟩
  have g2:c'.2.2.n=c1.2.2.n∧c'.2.2.A=c1.2.2.A∧c'.1.bk=c1.1.bk:=by
    split at h2
    · rw [h2]; exact ⟨rfl,rfl,numD_bk ..⟩
    · rw [h2]; exact ⟨rfl,rfl,rfl⟩
  exact ⟨by rw [g2.1,g1.1],by rw [g2.2.1,g1.2.1],by rw [g2.2.2,g1.2.2]⟩
theorem sg1_bk (d:Dv) (e:Nat) (x:Sg):(sg1 d e x).1.bk=d.bk:=by
  unfold sg1
  dsimp only
  rw [numD_bk,numD_bk,numD_bk,numD_bk]
theorem sgsD_bk:∀ (X:List Sg) (d:Dv) (e:Nat),(sgsD d e X).1.bk=d.bk
  | [],_,_=>rfl
  | x::X,d,e=>by simp only [sgsD]; rw [sgsD_bk X,sg1_bk]
theorem StrT_bk {c0 c:Cd} {X0 X:List Sg} (h:StrT c0 X0 c X):c.1.bk=c0.1.bk:=by
  obtain ⟨c1,h1,c2,h2,c3,X3,h3,h4,_⟩:=h
  have q1:c1.1.bk=c0.1.bk:=by rw [h1]; exact numD_bk ..
  have q2:c2.1.bk=c1.1.bk:=by rw [h2]; exact numD_bk ..
  have q3:c3.1.bk=c2.1.bk:=by
    split at h3
    · rw [h3.1]
    · split at h3
      · obtain ⟨⟨A,m,hc⟩,_⟩:=h3; rw [hc]
      · rw [h3.1]
  have q4:c.1.bk=c3.1.bk:=by rw [h4]; exact sgsD_bk ..
  rw [q4,q3,q2,q1]
theorem FiltT_bk {c0 c:Cd} {X0 X:List Sg} (h:FiltT c0 X0 c X):c.1.bk=c0.1.bk:=by
  obtain ⟨c1,h1,c2,h2,c3,h3,c4,h4,c5,h5,c6,h6,c7,h7,c8,h8,c9,h9,h10⟩:=h
  have q1:c1.1.bk=c0.1.bk:=by rw [h1]; exact numD_bk ..
  have q2:c2.1.bk=c1.1.bk:=by rw [h2]; exact numD_bk ..
  have q3:c3.1.bk=c2.1.bk:=by rw [h3]; exact numD_bk ..
  have q4:c4.1.bk=c3.1.bk:=by rw [h4]; exact numD_bk ..
  have q5:c5.1.bk=c4.1.bk:=by rw [h5]; exact numD_bk ..
  have q6:c6.1.bk=c5.1.bk:=by rw [h6]; exact flagD_bk ..
  have q7:c7.1.bk=c6.1.bk:=by
    split at h7
    · exact StrT_bk h7
    · rw [h7.1]
  have q8:c8.1.bk=c7.1.bk:=by rw [h8]; exact flagD_bk ..
  have q9:c9.1.bk=c8.1.bk:=by rw [h9]; exact flagD_bk ..
  have q10:c.1.bk=c9.1.bk:=by rw [h10]; exact flagD_bk ..
  rw [q10,q9,q8,q7,q6,q5,q4,q3,q2,q1]
theorem TailT_bk {c0 c:Cd} {X0 X:List Sg} (h:TailT w e c0 X0 c X):c.1.bk=c0.1.bk:=by
  obtain ⟨c1,h1,c2,h2,c3,h3,c4,h4,c5,h5,c6,h6,c7,h7,c8,h8,h9⟩:=h
  have q1:c1.1.bk=c0.1.bk:=by rw [h1]; exact deltaD_bk ..
  have q2:c2.1.bk=c1.1.bk:=by rw [h2]; exact deltaD_bk ..
  have q3:c3.1.bk=c2.1.bk:=by rw [h3]; exact deltaD_bk ..
  have q4:c4.1.bk=c3.1.bk:=by rw [h4]; exact deltaD_bk ..
  have q5:c5.1.bk=c4.1.bk:=by rw [h5]; exact deltaD_bk ..
  have q6:c6.1.bk=c5.1.bk:=by rw [h6]; exact logD_bk ..
  have q7:c7.1.bk=c6.1.bk:=by rw [h7]; exact logD_bk ..
  have q8:c8.1.bk=c7.1.bk:=by rw [h8]; exact flagD_bk ..
  have q9:c.1.bk=c8.1.bk:=by
    split at h9
    · rw [h9.1]
    · exact FiltT_bk h9
  rw [q9,q8,q7,q6,q5,q4,q3,q2,q1]
theorem HeadT_bk {c0 c:Cd} {X0 X:List Sg} (h:HeadT w e c0 X0 c X):c.1.bk=c0.1.bk:=by
  obtain ⟨c1,h1,h⟩:=h
  have q1:c1.1.bk=c0.1.bk:=by rw [h1]; exact flagD_bk ..
  split at h
  · rw [h.1,← q1]; exact numD_bk ..
  · obtain ⟨c2,h2,c3,h3,c4,h4,c5,h5,c6,h6,h7⟩:=h
    have q2:c2.1.bk=c1.1.bk:=by rw [h2]; exact flagD_bk ..
    have q3:c3.1.bk=c2.1.bk:=by rw [h3]; exact flagD_bk ..
    have q4:c4.1.bk=c3.1.bk:=by rw [h4]; exact numD_bk ..
    have q5:=h5.keepB.2.2
    have q6:c6.1.bk=c5.1.bk:=by rw [h6]; exact numD_bk ..
    rw [TailT_bk h7,q6,q5,q4,q3,q2,q1]
theorem bk_r {d:Dv} {b:List Nat} (h:d.bk=some b):∃ p,d=.r b p:=by
  cases d with
  | w l=>cases h
  | r b' p=>exact ⟨p,by cases h; rfl⟩
theorem same_wo (hw:wo h=wo g) (hn:h.n=g.n):h.same X g X=true:=by
  cases h
  cases g
  simp only [wo,Hd.mk.injEq] at hw
  simp [Hd.same,sm1,sm2,sm3,sm4,sm5,sm6,sm7,sm8,sm9,sm10,sm11,sm12,sm13,sm14,sm15,sm16,sm17,hw]
  exact congrArg (fun k:Nat=>(k:Int)) hn
def LnP (b:List Nat) (p:Nat) (w e:Int) (h:Hd) (Y:List Sg) (q f:Nat):Prop:=
  (mayS w e=true→∃ c X,HeadT w e (.r b p,0,zP) [] c X∧c.1=.r b q∧c.2.1=f∧(f=0→h=c.2.2∧Y=X)∧(f≠0→h=zP∧Y=[]))∧(mayS w e=false→h=zP∧Y=[]∧f=2∧q=p)
def LnR (b:List Nat) (p:Nat) (w e:Int) (h:Hd) (Y:List Sg) (q f:Nat):Prop:=
  (mayS w e=true→∃ r X,HeadR b w e (p,0,zH) r X∧r.1=q∧r.2.1=f∧(f=0→h=r.2.2∧Y=X)∧(f≠0→h=zH∧Y=[]))∧(mayS w e=false→h=zH∧Y=[]∧f=2∧q=p)
theorem ln_same {q f q' f':Nat} (h1:LnP b p w e h Y q f) (h2:LnR b p w e g X q' f') (hn:h.n=Y.length) (gn:g.n=X.length):f=f'∧q=q'∧h.same Y g X=true∧Y=X:=by
  cases hm:mayS w e with
  | true=>
    obtain ⟨c,Z,t1,t2,t3,t4,t5⟩:=h1.1 hm
    obtain ⟨r,Z',s1,s2,s3,s4,s5⟩:=h2.1 hm
    obtain ⟨R,RX⟩:=head_rel t1 s1
    have ef:f=f':=by rw [← t3,← s3]; exact R.e
    have eq:q=q':=by
      have:=R.d
      rw [t2,s2] at this
      injection this
    refine ⟨ef,eq,?_⟩
    by_cases h0:f=0
    · obtain ⟨a1,a2⟩:=t4 h0
      obtain ⟨b1,b2⟩:=s4 (by omega)
      have r0:r.2.1=0:=by omega
      rw [a1,a2] at hn
      rw [b1,b2] at gn
      rw [a1,a2,b1,b2,RX r0]
      exact ⟨same_wo (R.h r0) (by rw [hn,gn,RX r0]),rfl⟩
    · obtain ⟨a1,a2⟩:=t5 h0
      obtain ⟨b1,b2⟩:=s5 (by omega)
      rw [a1,a2,b1,b2]
      exact ⟨same_wo rfl rfl,rfl⟩
  | false=>
    obtain ⟨a1,a2,a3,a4⟩:=h1.2 hm
    obtain ⟨b1,b2,b3,b4⟩:=h2.2 hm
    refine ⟨by omega,by omega,?_⟩
    rw [a1,a2,b1,b2]
    exact ⟨same_wo rfl rfl,rfl⟩
theorem u35 (D:Rdr U M jq b p) (fq:M.floor≤jq) (fs:M.floor≤M.nb.size) (fu:∀ i,U i→M.floor≤i) (ub:∀ i,U i→i<M.nb.size):
    Cn Try.prog 35 #[PtrB jq,.agg #[.int .i64 w,.int .i64 e]] M fun v N=>∃ h Y f q U',v=.tuple #[.agg h.cs,.int .i64 (f:Nat)]∧LnP b p w e h Y q f∧Chg (fun i=>U i∨i=jq) M N∧Rdr U' N jq b q∧(∀ i,U' i→U i∨M.nb.size≤i)∧(∀ i,U' i→i<N.nb.size)∧h.n=Y.length∧Row N h.A (Sgs Y)∧∀ a,h.A=some a→a.block % 2=1∨M.nb.size≤a.block / 2:=by
  refine Cn.mono (c35 D fq fs fu ub) ?_
  intro v N
  cases hm:mayS w e with
  | true=>
    rw [if_pos rfl]
    rintro ⟨U',c,X,hT,h1,h2,h3,h4,h5⟩
    have C:Chg (fun i=>U i∨i=jq) M N:=h2.mono fun i hi h=>by rcases h with h | h | h <;> first | exact .inl h | exact .inr h | omega
    obtain ⟨p',hd⟩:=bk_r (b:=b) (HeadT_bk hT)
    have h3':Rdr U' N jq b p':=by rw [hd] at h3; exact h3
    rcases h5 with ⟨h0,hv⟩ | ⟨h0,hv,hn,hR,hA⟩
    · exact ⟨zP,[],c.2.1,p',U',hv,⟨fun _=>⟨c,X,hT,hd,rfl,fun q=>absurd q h0,fun _=>⟨rfl,rfl⟩⟩,fun q=>(by rw [hm] at q; cases q)⟩,C,h3',h1,h4,rfl,fun i hi=>by simp [Sgs] at hi,fun a ha=>by cases ha⟩
    · exact ⟨c.2.2,X,0,p',U',hv,⟨fun _=>⟨c,X,hT,hd,h0,fun _=>⟨rfl,rfl⟩,fun q=>absurd rfl q⟩,fun q=>(by rw [hm] at q; cases q)⟩,C,h3',h1,h4,hn,hR,hA⟩
  | false=>
    rw [if_neg (by decide)]
    rintro ⟨hv,h2,h3⟩
    have C:Chg (fun i=>U i∨i=jq) M N:=h2.mono fun i hi h=>by rcases h with h | h <;> first | exact .inr h | omega
    exact ⟨zP,[],2,p,U,hv,⟨fun q=>(by rw [hm] at q; cases q),fun _=>⟨rfl,rfl,rfl,rfl⟩⟩,C,h3,fun i hi=>.inl hi,fun i hi=>Nat.lt_of_lt_of_le (ub i hi) h2.size,rfl,fun i hi=>by simp [Sgs] at hi,fun a ha=>by cases ha⟩
theorem u36 (D:RefR S M jq b p) (fq:M.floor≤jq) (fs:M.floor≤M.nb.size) (su:∀ i,S i→i<jq):
    Cn Try.prog 36 #[PtrB jq,.agg #[.int .i64 w,.int .i64 e]] M fun v N=>∃ h Y f q,v=.tuple #[.agg h.cs,.int .i64 (f:Nat)]∧LnR b p w e h Y q f∧Chg (· = jq) M N∧RefR S N jq b q∧h.n=Y.length∧Row N h.A (Sgs Y):=by
  refine Cn.mono (c36 D fq fs su) ?_
  intro v N
  cases hm:mayS w e with
  | true=>
    rw [if_pos rfl]
    rintro ⟨r,X,hT,h2,h3,h5⟩
    have C:Chg (· = jq) M N:=h2.mono fun i hi h=>by rcases h with h | h <;> first | exact h | omega
    rcases h5 with ⟨h0,hv⟩ | ⟨h0,hv,hn,hR⟩
    · exact ⟨zH,[],r.2.1,r.1,hv,⟨fun _=>⟨r,X,hT,rfl,rfl,fun q=>absurd q h0,fun _=>⟨rfl,rfl⟩⟩,fun q=>(by rw [hm] at q; cases q)⟩,C,h3,rfl,fun i hi=>by simp [Sgs] at hi⟩
    · exact ⟨r.2.2,X,0,r.1,hv,⟨fun _=>⟨r,X,hT,rfl,h0,fun _=>⟨rfl,rfl⟩,fun q=>absurd rfl q⟩,fun q=>(by rw [hm] at q; cases q)⟩,C,h3,hn,hR⟩
  | false=>
    rw [if_neg (by decide)]
    rintro ⟨hv,h2,h3⟩
    have C:Chg (· = jq) M N:=h2.mono fun i hi h=>by rcases h with h | h <;> first | exact h | omega
    exact ⟨zH,[],2,p,hv,⟨fun q=>(by rw [hm] at q; cases q),fun _=>⟨rfl,rfl,rfl,rfl⟩⟩,C,h3,rfl,fun i hi=>by simp [Sgs] at hi⟩
theorem HeadR_len {r0 r:RS} (h:HeadR b w e r0 r X):X.length≤8:=by
  have str:∀ {r0 r:RS} {X:List Sg},StrR b r0 r X→X.length≤8:=by
    rintro r0 r X ⟨r1,h1,r2,h2,_,hX⟩
    rw [hX,sgsR_len]
    have:=getR_pow (b:=b) (p:=r1.1) (e:=r1.2.1) (n:=2)
    have e2:r2.2.2.cb=((getR b r1.1 r1.2.1 2).2.2:Nat)+(0:Int):=by rw [h2]; rfl
    have:(2:Nat) ^ (2:Int).toNat=4:=rfl
    have pb:2 ^ r2.2.2.cb.toNat≤2 ^ 3:=Nat.pow_le_pow_right (by decide) (by omega)
    exact pb
  have filt:∀ {r0 r:RS} {X:List Sg},FiltR b r0 r X→X.length≤8:=by
    rintro r0 r X ⟨r1,h1,r2,h2,r3,h3,r4,h4,r5,h5,r6,h6,r7,h7,_⟩
    split at h7
    · exact str h7
    · rw [h7.2]; simp
  have tail:∀ {r0 r:RS} {X:List Sg},TailR b w e r0 r X→X.length≤8:=by
    rintro r0 r X ⟨r1,h1,r2,h2,r3,h3,r4,h4,r5,h5,r6,h6,r7,h7,r8,h8,h9⟩
    split at h9
    · rw [h9.2]; simp
    · exact filt h9
  obtain ⟨r1,h1,h⟩:=h
  split at h
  · rw [h.2]; simp
  · obtain ⟨r2,h2,r3,h3,r4,h4,r5,h5,r6,h6,r7,h7,h8⟩:=h
    exact tail h8
theorem LnR.len {q f:Nat} (h:LnR b p w e g Y q f):Y.length≤8:=by
  cases hm:mayS w e with
  | true=>
    obtain ⟨r,X,h1,_,_,h4,h5⟩:=h.1 hm
    by_cases h0:f=0
    · rw [(h4 h0).2]; exact HeadR_len h1
    · rw [(h5 h0).2]; simp
  | false=>rw [(h.2 hm).2.1]; simp
end
end Go.Zt
