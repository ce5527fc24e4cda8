/- Layer 20: which frame headers may be: heads,their cells,what is asked of them. -/
import Derived.Test.YtgepgbblmodagaaZkN
import Derived.Test.YtgepgbblmodagaaZqT
import Derived.Test.YtgepgbblmodagaaProg
import Derived.Test.YtgepgbblmodagaaZkA
set_option linter.unusedSimpArgs false
set_option linter.unusedVariables false
set_option maxRecDepth 100000
namespace Go.Zt
open Go Go.Sim Go.Proofs Go.RowKit
structure Hd where
  ex:Bool
  sl:Int
  sh:Bool
  ke:Bool
  rf:Int
  r0:Int
  r1:Int
  r2:Int
  pr:Int
  ba:Int
  d0:Int
  d1:Int
  d2:Int
  d3:Int
  d4:Int
  co:Int
  ro:Int
  na:Bool
  l0:Int
  l1:Int
  l2:Int
  l3:Int
  sp:Int
  cd:Bool
  da:Int
  cb:Int
  A:Option Addr
  n:Nat
  c:Nat
  x0:Bool
  x1:Bool
  x2:Bool
abbrev Hd.cs (h:Hd):Array Value:=#[.bool h.ex,.int .i64 h.sl,.bool h.sh,.bool h.ke,.int .i64 h.rf,.int .i64 h.r0,.int .i64 h.r1,.int .i64 h.r2,.int .i64 h.pr,.int .i64 h.ba,.int .i64 h.d0,.int .i64 h.d1,.int .i64 h.d2,.int .i64 h.d3,.int .i64 h.d4,.int .i64 h.co,.int .i64 h.ro,.bool h.na,.int .i64 h.l0,.int .i64 h.l1,.int .i64 h.l2,.int .i64 h.l3,.int .i64 h.sp,.bool h.cd,.int .i64 h.da,.int .i64 h.cb,.slice h.A h.n h.c,.bool h.x0,.bool h.x1,.bool h.x2]
structure Sg where
  a:Int
  b:Int
  c:Int
  d:Int
  deriving DecidableEq
abbrev Sg.cells (x:Sg):List Value:=[.int .i64 x.a,.int .i64 x.b,.int .i64 x.c,.int .i64 x.d]
abbrev Sgs (X:List Sg):List Value:=X.flatMap Sg.cells
theorem Sgs_len (X:List Sg):(Sgs X).length=4*X.length:=by
  induction X with
  | nil=>rfl
  | cons x X ih=>simp only [Sgs,List.flatMap_cons,List.length_append,List.length_cons,List.length_nil] at ih ⊢; omega
theorem Sgs_at {X:List Sg} {i:Nat} (h:i<X.length):∀ o,o<4→(Sgs X)[i*4+o]?=(X[i]).cells[o]?:=by
  induction X generalizing i with
  | nil=>simp at h
  | cons x X ih=>
    intro o ho
    cases i with
    | zero=>simp only [Sgs,List.flatMap_cons,Nat.zero_mul,Nat.zero_add]; rw [List.getElem?_append_left (by simpa using ho)]; rfl
    | succ i=>
      simp only [Sgs,List.flatMap_cons]
      rw [List.getElem?_append_right (by simp; omega),show (i+1)*4+o - (x.cells).length=i*4+o by simp; omega]
      exact ih (by simpa using h) o ho
theorem Sgs.elt {M:Mem} {A:Option Addr} {X:List Sg} (hR:Row M A (Sgs X)) {n i:Nat} {z:Int} (hz:z=(i:Int)) (hn:i<n) (hi:i<X.length):
    ∃ a,idxA A n 4 z=some a∧M.intAt .i64 a.block a.off=some X[i].a∧M.intAt .i64 a.block (a.off+1)=some X[i].b∧M.intAt .i64 a.block (a.off+2)=some X[i].c∧M.intAt .i64 a.block (a.off+3)=some X[i].d:=by
  have hl:=Sgs_len X
  obtain ⟨a,h1,h2⟩:=hR.elt (s:=4) hz hn (by decide) (by omega)
  refine ⟨a,h1,cell_int ?_,cell_int ?_,cell_int ?_,cell_int ?_⟩
  · have:=h2 0 (by decide); rw [Nat.add_zero] at this; rw [this,Sgs_at hi 0 (by decide)]; rfl
  · rw [h2 1 (by decide),Sgs_at hi 1 (by decide)]; rfl
  · rw [h2 2 (by decide),Sgs_at hi 2 (by decide)]; rfl
  · rw [h2 3 (by decide),Sgs_at hi 3 (by decide)]; rfl
def Hd.less (h:Hd):Bool:=decide (h.ba=0∧h.d0=0∧h.d1=0∧h.d2=0∧h.d3=0∧h.d4=0)
def Sg.may (x:Sg):Bool:=decide ((0≤x.a∧x.a≤15)∧(0≤x.c∧x.c≤15)∧(0≤x.b∧x.b≤3)∧(0≤x.d∧x.d≤3))
def Hd.mayF (h:Hd) (X:List Sg):Bool:=
  if h.less then decide ((h.l0=0∧h.l1=0∧h.l2=0∧h.l3=0)∧h.sp=0∧h.cd=false∧h.da=0∧h.cb=0∧X.length=0∧(h.x0=false∧h.x1=false∧h.x2=false))
  else decide ((0≤h.sp∧h.sp≤7)∧(if h.cd then (3≤h.da∧h.da≤6)∧(0≤h.cb∧h.cb≤3)∧X.length=2 ^ h.cb.toNat else h.da=0∧h.cb=0∧X.length=0)∧
    (0≤h.l0∧h.l0≤63)∧(0≤h.l1∧h.l1≤63)∧(0≤h.l2∧h.l2≤63)∧(0≤h.l3∧h.l3≤63)) && X.all Sg.may
def Hd.mt (h:Hd) (X:List Sg):Bool:=decide (h.sh=false∧h.ke=false∧h.rf=0∧(h.r0=0∧h.r1=0∧h.r2=0)∧h.pr=0∧h.less=true∧h.co=0∧h.ro=0∧h.na=false∧h.mayF X=true)
def logM (n s:Int):Bool:=decide (0≤n∧n≤2∧2 ^ n.toNat≤(s+63) / 64)
def Hd.may (h:Hd) (X:List Sg) (w e:Int):Bool:=
  mayS w e && (if h.ex then decide (0≤h.sl∧h.sl≤7) && h.mt X
    else decide (h.sl=0∧(0≤h.rf∧h.rf≤255)∧(-1≤h.pr∧h.pr≤7)∧(0≤h.ba∧h.ba≤255)) && logM h.co w && logM h.ro e && h.mayF X && (!h.ke || decide ((h.r0=0∧h.r1=0∧h.r2=0)∧h.pr = -1))) &&
  decide ((0≤h.r0∧h.r0≤7)∧(0≤h.r1∧h.r1≤7)∧(0≤h.r2∧h.r2≤7)) &&
  decide ((-31≤h.d0∧h.d0≤31)∧(-31≤h.d1∧h.d1≤31)∧(-31≤h.d2∧h.d2≤31)∧(-31≤h.d3∧h.d3≤31)∧(-31≤h.d4∧h.d4≤31))
theorem eqv {t:TypeId} {xs ys:List Value} (hg:isAggP Try.prog t=some true) (hf:flatTy Try.prog 3 t=true) (hx:fits Try.prog 3 t xs=true) (hy:fits Try.prog 3 t ys=true) (hG:Try.prog.eqGuardType Try.prog.depth t=false) (hp:plain (.agg xs.toArray)=true) (hq:plain (.agg ys.toArray)=true) {p:Prop} [Decidable p] (he:xs=ys↔p):
    binV Try.prog .eql t t (.agg xs.toArray) (.agg ys.toArray)=some (.bool (decide p))∧binV Try.prog .neq t t (.agg xs.toArray) (.agg ys.toArray)=some (.bool (!decide p)):=by
  obtain ⟨b,h1,h2,h3⟩:=binV_eqA (P:=Try.prog) (k:=3) (t:=t) (tb:=t) (xs:=xs) (ys:=ys) (by decide) hg hf hx hy hG hp hq
  have:b=decide p:=by
    rw [Bool.eq_iff_iff,h3,he,decide_eq_true_eq]
  rw [h1,h2,this]; exact ⟨rfl,rfl⟩
theorem eq35 (a b c a' b' c':Int):binV Try.prog .eql 35 35 (.agg #[.int .i64 a,.int .i64 b,.int .i64 c]) (.agg #[.int .i64 a',.int .i64 b',.int .i64 c'])=some (.bool (decide (a=a'∧b=b'∧c=c')))∧binV Try.prog .neq 35 35 (.agg #[.int .i64 a,.int .i64 b,.int .i64 c]) (.agg #[.int .i64 a',.int .i64 b',.int .i64 c'])=some (.bool (!decide (a=a'∧b=b'∧c=c'))):=
  eqv (xs:=[.int .i64 a,.int .i64 b,.int .i64 c]) (ys:=[.int .i64 a',.int .i64 b',.int .i64 c']) (by kernel_rfl) (by kernel_rfl) (by kernel_rfl) (by kernel_rfl) (by kernel_rfl) rfl rfl (by simp)
theorem eq37 (a b c d a' b' c' d':Int):binV Try.prog .eql 37 37 (.agg #[.int .i64 a,.int .i64 b,.int .i64 c,.int .i64 d]) (.agg #[.int .i64 a',.int .i64 b',.int .i64 c',.int .i64 d'])=some (.bool (decide (a=a'∧b=b'∧c=c'∧d=d')))∧binV Try.prog .neq 37 37 (.agg #[.int .i64 a,.int .i64 b,.int .i64 c,.int .i64 d]) (.agg #[.int .i64 a',.int .i64 b',.int .i64 c',.int .i64 d'])=some (.bool (!decide (a=a'∧b=b'∧c=c'∧d=d'))):=
  eqv (xs:=[.int .i64 a,.int .i64 b,.int .i64 c,.int .i64 d]) (ys:=[.int .i64 a',.int .i64 b',.int .i64 c',.int .i64 d']) (by kernel_rfl) (by kernel_rfl) (by kernel_rfl) (by kernel_rfl) (by kernel_rfl) rfl rfl (by simp)
theorem eq96 (a b c d a' b' c' d':Int):binV Try.prog .eql 96 96 (.agg #[.int .i64 a,.int .i64 b,.int .i64 c,.int .i64 d]) (.agg #[.int .i64 a',.int .i64 b',.int .i64 c',.int .i64 d'])=some (.bool (decide (a=a'∧b=b'∧c=c'∧d=d')))∧binV Try.prog .neq 96 96 (.agg #[.int .i64 a,.int .i64 b,.int .i64 c,.int .i64 d]) (.agg #[.int .i64 a',.int .i64 b',.int .i64 c',.int .i64 d'])=some (.bool (!decide (a=a'∧b=b'∧c=c'∧d=d'))):=
  eqv (xs:=[.int .i64 a,.int .i64 b,.int .i64 c,.int .i64 d]) (ys:=[.int .i64 a',.int .i64 b',.int .i64 c',.int .i64 d']) (by kernel_rfl) (by kernel_rfl) (by kernel_rfl) (by kernel_rfl) (by kernel_rfl) rfl rfl (by simp)
theorem eq36 (a b c d e a' b' c' d' e':Int):binV Try.prog .eql 36 36 (.agg #[.int .i64 a,.int .i64 b,.int .i64 c,.int .i64 d,.int .i64 e]) (.agg #[.int .i64 a',.int .i64 b',.int .i64 c',.int .i64 d',.int .i64 e'])=some (.bool (decide (a=a'∧b=b'∧c=c'∧d=d'∧e=e')))∧binV Try.prog .neq 36 36 (.agg #[.int .i64 a,.int .i64 b,.int .i64 c,.int .i64 d,.int .i64 e]) (.agg #[.int .i64 a',.int .i64 b',.int .i64 c',.int .i64 d',.int .i64 e'])=some (.bool (!decide (a=a'∧b=b'∧c=c'∧d=d'∧e=e'))):=
  eqv (xs:=[.int .i64 a,.int .i64 b,.int .i64 c,.int .i64 d,.int .i64 e]) (ys:=[.int .i64 a',.int .i64 b',.int .i64 c',.int .i64 d',.int .i64 e']) (by kernel_rfl) (by kernel_rfl) (by kernel_rfl) (by kernel_rfl) (by kernel_rfl) rfl rfl (by simp)
theorem eq39 (a b c a' b' c':Bool):binV Try.prog .eql 39 39 (.agg #[.bool a,.bool b,.bool c]) (.agg #[.bool a',.bool b',.bool c'])=some (.bool (decide (a=a'∧b=b'∧c=c')))∧binV Try.prog .neq 39 39 (.agg #[.bool a,.bool b,.bool c]) (.agg #[.bool a',.bool b',.bool c'])=some (.bool (!decide (a=a'∧b=b'∧c=c'))):=
  eqv (xs:=[.bool a,.bool b,.bool c]) (ys:=[.bool a',.bool b',.bool c']) (by kernel_rfl) (by kernel_rfl) (by kernel_rfl) (by kernel_rfl) (by kernel_rfl) rfl rfl (by simp)
theorem dT {p:Prop} [Decidable p] (h:decide p=true):p:=of_decide_eq_true h
theorem dF {p:Prop} [Decidable p] (h:decide p=false):¬ p:=of_decide_eq_false h
theorem bF {p:Prop} [Decidable p] (h:¬ p):(Value.bool false)=.bool (decide p):=by rw [decide_eq_false h]
theorem pow2 {n:Int} (h:0≤n∧n≤3):(2:Int) ^ n.toNat≤8∧1≤(2:Int) ^ n.toNat:=by
  have:n.toNat=0∨n.toNat=1∨n.toNat=2∨n.toNat=3:=by omega
  rcases this with h | h | h | h <;> rw [h] <;> decide
theorem c57 {n s:Int} {M:Mem} (hs:16≤s∧s≤256):Cn Try.prog 57 #[.int .i64 n,.int .i64 s] M fun v N=>v=.bool (logM n s)∧N=M:=by
  refine w57_0 (Cn.eq c55 (ty rfl (cd (fun h=>?_) fun h=>⟨bF (by omega),rfl⟩)))
  obtain ⟨p1,p2⟩:=pow2 (n:=n) (by omega)
  refine pu (shl_i64 (q:=n.toNat) (by omega) (by omega) (by omega)) (ty rfl ⟨?_,rfl⟩)
  rw [i64w (x:=s+64) (by omega),i64w (x:=s+64 - 1) (by omega),Int.tdiv_eq_ediv_of_nonneg (by omega),i64w (by omega),show s+64 - 1=s+63 by omega,Int.one_mul]
  unfold logM
  congr 1
  rw [decide_eq_decide]
  exact ⟨fun h'=>⟨h.1,h.2,h'⟩,fun h'=>h'.2.2⟩
theorem c77 {h:Hd} {M:Mem}:Cn Try.prog 77 #[.agg h.cs] M (BK M h.less):=by
  have a:=Mem.new_at M (.cells h.cs 41)
  have K:Keep M (M.new (.cells h.cs 41)):=.new _ _
  refine w77_0 ?_
  generalize M.new (.cells h.cs 41)=N at a K ⊢
  refine on (int_of a rfl) (ce (fun e=>on (int_of a rfl) (on (int_of a rfl) (on (int_of a rfl) (on (int_of a rfl) (on (int_of a rfl) (pu (eq36 ..).1 (ty rfl ⟨?_,K⟩))))))) fun e=>⟨bF fun hh=>e hh.1,K⟩)
  unfold Hd.less; congr 1; rw [decide_eq_decide]; exact ⟨fun hh=>⟨e,hh⟩,fun hh=>hh.2⟩
theorem c79 {x:Sg} {M:Mem}:Cn Try.prog 79 #[.agg #[.int .i64 x.a,.int .i64 x.b,.int .i64 x.c,.int .i64 x.d]] M (BK M x.may):=by
  have a:=Mem.new_at M (.cells #[.int .i64 x.a,.int .i64 x.b,.int .i64 x.c,.int .i64 x.d] 96)
  have K:Keep M (M.new (.cells #[.int .i64 x.a,.int .i64 x.b,.int .i64 x.c,.int .i64 x.d] 96)):=.new _ _
  refine w79_0 ?_
  generalize M.new (.cells #[.int .i64 x.a,.int .i64 x.b,.int .i64 x.c,.int .i64 x.d] 96)=N at a K ⊢
  have e2:∀ b,(b=false→x.may=false)→(b=true→x.may=decide (0≤x.d∧x.d≤3))→A79_2 (some ⟨2*M.nb.size,0,none⟩) b N (BK M x.may):=fun b h0 h1=>
    w79_2 (cn (fun hb=>ad rfl (on (int_of a rfl) (Cn.eq c55 (ty rfl ⟨by rw [h1 hb],K⟩)))) fun hb=>⟨by rw [h0 hb],K⟩)
  have e1:∀ b,(b=false→x.may=false)→(b=true→x.may=decide ((0≤x.b∧x.b≤3)∧(0≤x.d∧x.d≤3)))→A79_1 (some ⟨2*M.nb.size,0,none⟩) b N (BK M x.may):=fun b h0 h1=>
    w79_1 (cn (fun hb=>ad rfl (on (int_of a rfl) (Cn.eq c55 (ty rfl (e2 _ (fun h=>by rw [h1 hb]; have:=dF h; exact decide_eq_false (by omega)) fun h=>by rw [h1 hb]; have:=dT h; rw [decide_eq_decide]; omega))))) fun hb=>e2 _ (fun _=>h0 hb) fun h=>(by cases h))
  refine on (int_of (i:=0) a rfl) (Cn.eq c55 (ty rfl (cd (fun h=>on (int_of a rfl) (Cn.eq c55 (ty rfl (e1 _ (fun h2=>?_) fun h2=>?_)))) fun h=>e1 _ (fun _=>decide_eq_false (by omega)) fun h=>(by cases h))))
  · have:=dF h2; exact decide_eq_false (by omega)
  · have:=dT h2; unfold Sg.may; rw [decide_eq_decide]; omega
end Go.Zt

/- Layer 20: the program's Check of a frame header. -/
set_option linter.unusedSimpArgs false
set_option linter.unusedVariables false
set_option maxRecDepth 100000
namespace Go.Zt
open Go Go.Sim Go.Proofs Go.RowKit
section
variable {h:Hd} {X:List Sg} {M0 M:Mem} {j:Nat}
theorem e58_10 {A:Option Addr} {n c:Nat} (hf:M0.floor≤M0.nb.size) (hn:n=X.length) (hb:n≤1048576) {r:Bool}:∀ (k i:Nat) {M:Mem},i+k=n→Keep M0 M→Row M A (Sgs X)→(r=(X.drop i).all Sg.may)→A58_10 A n c (n:Int) (i:Int) M (BK M0 r)
  | 0,i,M,hi,K,hR,hr=>w58_10 (cd (fun h=>by omega) fun _=>⟨by rw [hr,List.drop_of_length_le (by omega)]; rfl,K⟩)
  | k+1,i,M,hi,K,hR,hr=>by
    have hlt:i<X.length:=by omega
    obtain ⟨a,g0,g1,g2,g3,g4⟩:=Sgs.elt hR (n:=n) (i:=i) (z:=(i:Int)) rfl (by omega) hlt
    refine w58_10 (cT (decide_eq_true (by omega)) (ix g0 (on g1 (on g2 (on g3 (on g4 (stN (fb hf K) rfl rfl rfl fun M' K' _ a'=>on (int_of a' rfl) (on (int_of a' rfl) (on (int_of a' rfl) (on (int_of a' rfl) (Cn.mono c79 ?_)))))))))))
    rintro _ N ⟨rfl,K2⟩
    rw [List.drop_eq_getElem_cons hlt,List.all_cons] at hr
    refine ty rfl (cnn (fun h=>⟨by rw [hr,h]; rfl,(K.trans K').trans K2⟩) fun h=>?_)
    rw [h,Bool.true_and] at hr
    rw [i64w (by omega)]
    exact e58_10 hf hn hb k (i+1) (by omega) ((K.trans K').trans K2) ((hR.keep K').keep K2) hr
theorem e58_8 (hf:M0.floor≤M0.nb.size) (hn:h.n=X.length) (hb:h.n≤1048576) (K:Keep M0 M) (hR:Row M h.A (Sgs X)) (a:M.nb[j]?=some (.cells h.cs 41))
    (hm:h.mayF X=(decide ((0≤h.l0∧h.l0≤63)∧(0≤h.l1∧h.l1≤63)∧(0≤h.l2∧h.l2≤63)∧(0≤h.l3∧h.l3≤63)) && X.all Sg.may)):A58_8 (some ⟨2*j,0,none⟩) h.l0 h.l1 h.l2 h.l3 0 M (BK M0 (h.mayF X)):=by
  have bad:¬ ((0≤h.l0∧h.l0≤63)∧(0≤h.l1∧h.l1≤63)∧(0≤h.l2∧h.l2≤63)∧(0≤h.l3∧h.l3≤63))→BK M0 (h.mayF X) (.bool false) M:=fun hb=>⟨by rw [hm,decide_eq_false hb]; rfl,K⟩
  refine w58_8 (cT (by decide) (pu (x:=.int .i64 h.l0) (by kernel_rfl) (ty rfl (Cn.eq c55 (ty rfl (cnn (fun h0=>bad (by have:=dF h0; omega)) fun h0=>?_))))))
  refine w58_8 (cT (by decide) (pu (x:=.int .i64 h.l1) (by kernel_rfl) (ty rfl (Cn.eq c55 (ty rfl (cnn (fun h1=>bad (by have:=dF h1; omega)) fun h1=>?_))))))
  refine w58_8 (cT (by decide) (pu (x:=.int .i64 h.l2) (by kernel_rfl) (ty rfl (Cn.eq c55 (ty rfl (cnn (fun h2=>bad (by have:=dF h2; omega)) fun h2=>?_))))))
  refine w58_8 (cT (by decide) (pu (x:=.int .i64 h.l3) (by kernel_rfl) (ty rfl (Cn.eq c55 (ty rfl (cnn (fun h3=>bad (by have:=dF h3; omega)) fun h3=>?_))))))
  refine w58_8 (cF (by decide) (ad rfl (on (sl_of a rfl) ?_)))
  have:=dT h0; have:=dT h1; have:=dT h2; have:=dT h3
  rw [decide_eq_true (by omega),Bool.true_and] at hm
  exact e58_10 hf hn hb h.n 0 (by omega) K hR (by rw [hm]; rfl)
def Hd.many (h:Hd):Nat:=if h.cd then 2 ^ (h.cb % 4).toNat else 0
theorem e58_2 (hf:M0.floor≤M0.nb.size) (hn:h.n=X.length) (hb:h.n≤1048576) (K:Keep M0 M) (hR:Row M h.A (Sgs X)) (a:M.nb[j]?=some (.cells h.cs 41)) (hl:h.less=false) (b:Bool)
    (h1:b=true→¬ ((0≤h.sp∧h.sp≤7)∧X.length=h.many)) (h0:b=false→(0≤h.sp∧h.sp≤7)∧X.length=h.many):A58_2 (some ⟨2*j,0,none⟩) b M (BK M0 (h.mayF X)):=by
  have sp:h.mayF X=(decide ((0≤h.sp∧h.sp≤7)∧(if h.cd then (3≤h.da∧h.da≤6)∧(0≤h.cb∧h.cb≤3)∧X.length=2 ^ h.cb.toNat else h.da=0∧h.cb=0∧X.length=0)∧
    (0≤h.l0∧h.l0≤63)∧(0≤h.l1∧h.l1≤63)∧(0≤h.l2∧h.l2≤63)∧(0≤h.l3∧h.l3≤63)) && X.all Sg.may):=by unfold Hd.mayF; rw [hl]; rfl
  have bad:∀ {p:Prop},p→(p→¬ ((0≤h.sp∧h.sp≤7)∧(if h.cd then (3≤h.da∧h.da≤6)∧(0≤h.cb∧h.cb≤3)∧X.length=2 ^ h.cb.toNat else h.da=0∧h.cb=0∧X.length=0)))→BK M0 (h.mayF X) (.bool false) M:=fun hp hb=>
    ⟨by rw [sp,decide_eq_false fun hh=>hb hp ⟨hh.1,hh.2.1⟩]; rfl,K⟩
  have e6:∀ b:Bool,(b=true→¬ (h.cd=false→h.da=0∧h.cb=0))→(b=false→(0≤h.sp∧h.sp≤7)∧X.length=h.many∧(h.cd=true→(3≤h.da∧h.da≤6)∧(0≤h.cb∧h.cb≤3))∧(h.cd=false→h.da=0∧h.cb=0))→A58_6 (some ⟨2*j,0,none⟩) b M (BK M0 (h.mayF X)):=by
    intro b g1 g0
    refine w58_6 (cn (fun hb=>bad (g1 hb) fun hh ⟨_,h2⟩=>hh fun hc=>?_) fun hb=>ad rfl (on (int_of a rfl) (on (int_of a rfl) (on (int_of a rfl) (on (int_of a rfl) (e58_8 hf hn ‹_› K hR a ?_))))))
    · rw [hc,if_neg (by decide)] at h2; exact ⟨h2.1,h2.2.1⟩
    · obtain ⟨q1,q2,q3,q4⟩:=g0 hb
      rw [sp]
      congr 1
      rw [decide_eq_decide]
      refine ⟨fun hh=>hh.2.2,fun hh=>⟨q1,?_,hh⟩⟩
      cases hc:h.cd with
      | true=>
        rw [if_pos rfl]
        have:=q3 hc
        refine ⟨this.1,this.2,?_⟩
        rw [q2]; unfold Hd.many; rw [hc,if_pos rfl,Int.emod_eq_of_lt this.2.1 (by omega)]
      | false=>
        rw [if_neg (by decide)]
        have:=q4 hc
        refine ⟨this.1,this.2,?_⟩
        rw [q2]; unfold Hd.many; rw [hc]; rfl
  have e4:∀ b:Bool,(b=true→¬ (h.cd=true→(3≤h.da∧h.da≤6)∧(0≤h.cb∧h.cb≤3)))→(b=false→(0≤h.sp∧h.sp≤7)∧X.length=h.many∧(h.cd=true→(3≤h.da∧h.da≤6)∧(0≤h.cb∧h.cb≤3)))→A58_4 (some ⟨2*j,0,none⟩) b M (BK M0 (h.mayF X)):=by
    intro b g1 g0
    refine w58_4 (cn (fun hb=>bad (g1 hb) fun hh ⟨_,h2⟩=>hh fun hc=>?_) fun hb=>ad rfl (on (bool_of a rfl) (cnn (fun hc=>ad rfl (on (int_of a rfl) (cne (fun hd=>e6 _ (fun _ hh=>hd (hh hc).1) fun h=>(by cases h)) fun hd=>ad rfl (on (int_of a rfl) (e6 _ (fun hx hh=>ne_of_bneT hx (hh hc).2) fun hx=>?_))))) fun hc=>e6 _ (fun h=>(by cases h)) fun _=>?_)))
    · rw [hc,if_pos rfl] at h2; exact ⟨h2.1,h2.2.1⟩
    · obtain ⟨q1,q2,q3⟩:=g0 hb
      exact ⟨q1,q2,q3,fun _=>⟨hd,eq_of_bneF hx⟩⟩
    · obtain ⟨q1,q2,q3⟩:=g0 hb
      exact ⟨q1,q2,q3,fun hc'=>by rw [hc] at hc'; cases hc'⟩
  refine w58_2 (cn (fun hb=>bad (h1 hb) fun hh ⟨g1,g2⟩=>hh ⟨g1,?_⟩) fun hb=>ad rfl (on (bool_of a rfl) (cn (fun hc=>ad rfl (on (int_of a rfl) (Cn.eq c55 (ty rfl (cnn (fun hd=>e4 _ (fun _ hh=>dF hd (hh hc).1) fun h=>(by cases h)) fun hd=>ad rfl (on (int_of a rfl) (Cn.eq c55 (ty rfl (e4 _ (fun hx hh=>?_) fun hx=>?_))))))))) fun hc=>e4 _ (fun h=>(by cases h)) fun _=>?_)))
  · cases hc:h.cd with
    | true=>
      rw [hc,if_pos rfl] at g2
      rw [g2.2.2]; unfold Hd.many; rw [hc,if_pos rfl,Int.emod_eq_of_lt g2.2.1.1 (by omega)]
    | false=>
      rw [hc,if_neg (by decide)] at g2
      rw [g2.2.2]; unfold Hd.many; rw [hc]; rfl
  · have hx':=dF (nb hx); exact hx' (hh hc).2
  · obtain ⟨q1,q2⟩:=h0 hb
    exact ⟨q1,q2,fun _=>⟨dT hd,dT (nb' hx)⟩⟩
  · obtain ⟨q1,q2⟩:=h0 hb
    exact ⟨q1,q2,fun hc'=>by rw [hc] at hc'; cases hc'⟩
theorem e58_1 (hn:h.n=X.length) (K:Keep M0 M) (a:M.nb[j]?=some (.cells h.cs 41)) (hl:h.less=true) (b:Bool)
    (hb:b=decide ((h.l0=0∧h.l1=0∧h.l2=0∧h.l3=0)∧h.sp=0)):A58_1 (some ⟨2*j,0,none⟩) b M (BK M0 (h.mayF X)):=by
  have sp:h.mayF X=decide ((h.l0=0∧h.l1=0∧h.l2=0∧h.l3=0)∧h.sp=0∧h.cd=false∧h.da=0∧h.cb=0∧X.length=0∧(h.x0=false∧h.x1=false∧h.x2=false)):=by unfold Hd.mayF; rw [hl]; rfl
  have e9:∀ b:Bool,(b=decide (((h.l0=0∧h.l1=0∧h.l2=0∧h.l3=0)∧h.sp=0)∧h.cd=false∧h.da=0∧h.cb=0∧X.length=0))→A58_9 (some ⟨2*j,0,none⟩) b M (BK M0 (h.mayF X)):=by
    rintro b rfl
    refine w58_9 (cd (fun hh=>ad rfl (on (bool_of a rfl) (on (bool_of a rfl) (on (bool_of a rfl) (pu (eq39 ..).1 (ty rfl ⟨?_,K⟩)))))) fun hh=>⟨?_,K⟩)
    · rw [sp]; congr 1; rw [decide_eq_decide]; exact ⟨fun g=>⟨hh.1.1,hh.1.2,hh.2.1,hh.2.2.1,hh.2.2.2.1,hh.2.2.2.2,g⟩,fun g=>g.2.2.2.2.2.2⟩
    · rw [sp]; exact bF fun g=>hh ⟨⟨g.1,g.2.1⟩,g.2.2.1,g.2.2.2.1,g.2.2.2.2.1,g.2.2.2.2.2.1⟩
  have e7:∀ b:Bool,(b=decide (((h.l0=0∧h.l1=0∧h.l2=0∧h.l3=0)∧h.sp=0)∧h.cd=false∧h.da=0∧h.cb=0))→A58_7 (some ⟨2*j,0,none⟩) b M (BK M0 (h.mayF X)):=by
    rintro b rfl
    refine w58_7 (cd (fun hh=>ad rfl (on (sl_of a rfl) (e9 _ ?_))) fun hh=>e9 _ ?_)
    · rw [Bool.eq_iff_iff,beq_iff_eq,decide_eq_true_eq,hn]
      show ((X.length:Nat):Int)=0↔_
      exact ⟨fun g=>⟨hh.1,hh.2.1,hh.2.2.1,hh.2.2.2,by omega⟩,fun g=>by have:=g.2.2.2.2; omega⟩
    · rw [eq_comm]; exact decide_eq_false fun g=>hh ⟨g.1,g.2.1,g.2.2.1,g.2.2.2.1⟩
  have e5:∀ b:Bool,(b=decide (((h.l0=0∧h.l1=0∧h.l2=0∧h.l3=0)∧h.sp=0)∧h.cd=false∧h.da=0))→A58_5 (some ⟨2*j,0,none⟩) b M (BK M0 (h.mayF X)):=by
    rintro b rfl
    refine w58_5 (cd (fun hh=>ad rfl (on (int_of a rfl) (e7 _ ?_))) fun hh=>e7 _ ?_)
    · rw [Bool.eq_iff_iff,beq_iff_eq,decide_eq_true_eq]
      exact ⟨fun g=>⟨hh.1,hh.2.1,hh.2.2,g⟩,fun g=>g.2.2.2⟩
    · rw [eq_comm]; exact decide_eq_false fun g=>hh ⟨g.1,g.2.1,g.2.2.1⟩
  have e3:∀ b:Bool,(b=decide (((h.l0=0∧h.l1=0∧h.l2=0∧h.l3=0)∧h.sp=0)∧h.cd=false))→A58_3 (some ⟨2*j,0,none⟩) b M (BK M0 (h.mayF X)):=by
    rintro b rfl
    refine w58_3 (cd (fun hh=>ad rfl (on (int_of a rfl) (e5 _ ?_))) fun hh=>e5 _ ?_)
    · rw [Bool.eq_iff_iff,beq_iff_eq,decide_eq_true_eq]
      exact ⟨fun g=>⟨hh.1,hh.2,g⟩,fun g=>g.2.2⟩
    · rw [eq_comm]; exact decide_eq_false fun g=>hh ⟨g.1,g.2.1⟩
  subst hb
  refine w58_1 (cd (fun hh=>ad rfl (on (bool_of a rfl) (e3 _ ?_))) fun hh=>e3 _ ?_)
  · cases h.cd
    · rw [eq_comm]; exact decide_eq_true ⟨hh,rfl⟩
    · rw [eq_comm]; exact decide_eq_false fun g=>by cases g.2
  · rw [eq_comm]; exact decide_eq_false fun g=>hh g.1
theorem c58 (hf:M.floor≤M.nb.size) (hn:h.n=X.length) (hb:h.n≤1048576) (hR:Row M h.A (Sgs X)):Cn Try.prog 58 #[.agg h.cs] M (BK M (h.mayF X)):=by
  have a:=Mem.new_at M (.cells h.cs 41)
  have K:Keep M (M.new (.cells h.cs 41)):=.new _ _
  refine w58_0 ?_
  generalize M.new (.cells h.cs 41)=N at a K ⊢
  have two:∀ {N2:Mem},Keep N N2→h.less=true→BK M (h.mayF X)=BK M (h.mayF X):=fun _ _=>rfl
  refine on (bool_of a rfl) (cn (fun hc=>on (int_of a rfl) ?_) fun hc=>?_)
  · have mq:h.many=2 ^ (h.cb % 4).toNat:=by unfold Hd.many; rw [hc]; rfl
    have q3:(h.cb % 4).toNat≤3:=by omega
    have ew:IntKind.u64.wrap h.cb=(((h.cb % 18446744073709551616).toNat:Nat):Int):=by rw [IntKind.wrap_u64]; omega
    have em:=and_mask (k:=.u64) rfl (x:=(h.cb % 18446744073709551616).toNat) (m:=2) (c:=3) rfl (by decide) (show _<18446744073709551616 by omega)
    have e4:(((h.cb % 18446744073709551616).toNat % 2 ^ 2:Nat):Int)=(((h.cb % 4).toNat:Nat):Int):=by omega
    rw [ew,em,e4]
    have hp:(2:Int) ^ (h.cb % 4).toNat=((2 ^ (h.cb % 4).toNat:Nat):Int):=by push_cast; rfl
    have hp8:2 ^ (h.cb % 4).toNat≤8:=Nat.pow_le_pow_right (n:=2) (by decide) q3
    refine pu (shl_i64 (q:=(h.cb % 4).toNat) rfl (by rw [hp]; omega) (by omega)) (ty rfl (ldA a rfl (Cn.mono c77 ?_)))
    rintro _ N2 ⟨rfl,K2⟩
    have a2:=at_keep a K2
    have KK:=K.trans K2
    refine ty rfl (cn (fun hl=>?_) fun hl=>?_)
    · refine on (int_of a2 rfl) (on (int_of a2 rfl) (on (int_of a2 rfl) (on (int_of a2 rfl) (pu (eq37 ..).1 (ty rfl (cd (fun hh=>on (int_of a2 rfl) (e58_1 hn KK a2 hl _ ?_)) fun hh=>e58_1 hn KK a2 hl _ ?_))))))
      · rw [Bool.eq_iff_iff,beq_iff_eq,decide_eq_true_eq]; exact ⟨fun g=>⟨hh,g⟩,fun g=>g.2⟩
      · rw [eq_comm]; exact decide_eq_false fun g=>hh g.1
    · refine on (int_of a2 rfl) (Cn.eq c55 (ty rfl (cnn (fun hs=>e58_2 hf hn hb KK (hR.keep KK) a2 hl _ (fun _ g=>dF hs g.1) fun h=>(by cases h)) fun hs=>on (sl_of a2 rfl) (e58_2 hf hn hb KK (hR.keep KK) a2 hl _ (fun hx g=>?_) fun hx=>⟨dT hs,?_⟩))))
      · have:=ne_of_bneT hx
        rw [hp,hn,g.2,mq,Int.one_mul] at this; exact this rfl
      · have:((h.n:Nat):Int)=1*2 ^ (h.cb % 4).toNat:=eq_of_bneF hx
        rw [hp,hn,Int.one_mul] at this
        rw [mq]; omega
  · have mq:h.many=0:=by unfold Hd.many; rw [hc]; rfl
    refine ldA a rfl (Cn.mono c77 ?_)
    rintro _ N2 ⟨rfl,K2⟩
    have a2:=at_keep a K2
    have KK:=K.trans K2
    refine ty rfl (cn (fun hl=>?_) fun hl=>?_)
    · refine on (int_of a2 rfl) (on (int_of a2 rfl) (on (int_of a2 rfl) (on (int_of a2 rfl) (pu (eq37 ..).1 (ty rfl (cd (fun hh=>on (int_of a2 rfl) (e58_1 hn KK a2 hl _ ?_)) fun hh=>e58_1 hn KK a2 hl _ ?_))))))
      · rw [Bool.eq_iff_iff,beq_iff_eq,decide_eq_true_eq]; exact ⟨fun g=>⟨hh,g⟩,fun g=>g.2⟩
      · rw [eq_comm]; exact decide_eq_false fun g=>hh g.1
    · refine on (int_of a2 rfl) (Cn.eq c55 (ty rfl (cnn (fun hs=>e58_2 hf hn hb KK (hR.keep KK) a2 hl _ (fun _ g=>dF hs g.1) fun h=>(by cases h)) fun hs=>on (sl_of a2 rfl) (e58_2 hf hn hb KK (hR.keep KK) a2 hl _ (fun hx g=>?_) fun hx=>⟨dT hs,?_⟩))))
      · have:=ne_of_bneT hx
        rw [hn,g.2,mq] at this; exact this rfl
      · have:((h.n:Nat):Int)=0:=eq_of_bneF hx
        rw [hn] at this
        rw [mq]; omega
theorem c56 (hf:M.floor≤M.nb.size) (hn:h.n=X.length) (hb:h.n≤1048576) (hR:Row M h.A (Sgs X)):Cn Try.prog 56 #[.agg h.cs] M (BK M (h.mt X)):=by
  have a:=Mem.new_at M (.cells h.cs 41)
  have K:Keep M (M.new (.cells h.cs 41)):=.new _ _
  refine w56_0 ?_
  generalize M.new (.cells h.cs 41)=N at a K ⊢
  have sp:h.mt X=decide (h.sh=false∧h.ke=false∧h.rf=0∧(h.r0=0∧h.r1=0∧h.r2=0)∧h.pr=0∧h.less=true∧h.co=0∧h.ro=0∧h.na=false∧h.mayF X=true):=rfl
  generalize M.nb.size=j at a
  have e8:∀ {N:Mem} (b:Bool),Keep M N→N.nb[j]?=some (.cells h.cs 41)→(b=decide (h.sh=false∧h.ke=false∧h.rf=0∧(h.r0=0∧h.r1=0∧h.r2=0)∧h.pr=0∧h.less=true∧h.co=0∧h.ro=0∧h.na=false))→A56_8 (some ⟨2*j,0,none⟩) b N (BK M (h.mt X)):=by
    rintro N b K a rfl
    refine w56_8 (cd (fun hh=>ad rfl (ldA a rfl (Cn.mono (c58 (fb hf K) hn hb (hR.keep K)) ?_))) fun hh=>⟨?_,K⟩)
    · rintro _ N2 ⟨rfl,K2⟩
      refine ty rfl ⟨?_,K.trans K2⟩
      rw [sp]; congr 1
      rw [Bool.eq_iff_iff,decide_eq_true_eq]
      exact ⟨fun g=>⟨hh.1,hh.2.1,hh.2.2.1,hh.2.2.2.1,hh.2.2.2.2.1,hh.2.2.2.2.2.1,hh.2.2.2.2.2.2.1,hh.2.2.2.2.2.2.2.1,hh.2.2.2.2.2.2.2.2,g⟩,fun g=>g.2.2.2.2.2.2.2.2.2⟩
    · rw [sp]; exact bF fun g=>hh ⟨g.1,g.2.1,g.2.2.1,g.2.2.2.1,g.2.2.2.2.1,g.2.2.2.2.2.1,g.2.2.2.2.2.2.1,g.2.2.2.2.2.2.2.1,g.2.2.2.2.2.2.2.2.1⟩
  have fin:∀ {b b':Bool} {p:Prop} [Decidable p],b=true→(p↔b'=true)→b'=decide p:=fun _ h=>by rw [Bool.eq_iff_iff,decide_eq_true_eq]; exact h.symm
  have e7:∀ {N:Mem} (b:Bool),Keep M N→N.nb[j]?=some (.cells h.cs 41)→(b=decide (h.sh=false∧h.ke=false∧h.rf=0∧(h.r0=0∧h.r1=0∧h.r2=0)∧h.pr=0∧h.less=true∧h.co=0∧h.ro=0))→A56_7 (some ⟨2*j,0,none⟩) b N (BK M (h.mt X)):=by
    rintro N b K a rfl
    exact w56_7 (cd (fun hh=>ad rfl (on (bool_of a rfl) (e8 _ K a (by simp only [hh,true_and]; cases h.na <;> rfl)))) fun hh=>e8 _ K a (by rw [eq_comm]; exact decide_eq_false fun g=>hh ⟨g.1,g.2.1,g.2.2.1,g.2.2.2.1,g.2.2.2.2.1,g.2.2.2.2.2.1,g.2.2.2.2.2.2.1,g.2.2.2.2.2.2.2.1⟩))
  have e6:∀ {N:Mem} (b:Bool),Keep M N→N.nb[j]?=some (.cells h.cs 41)→(b=decide (h.sh=false∧h.ke=false∧h.rf=0∧(h.r0=0∧h.r1=0∧h.r2=0)∧h.pr=0∧h.less=true∧h.co=0))→A56_6 (some ⟨2*j,0,none⟩) b N (BK M (h.mt X)):=by
    rintro N b K a rfl
    exact w56_6 (cd (fun hh=>ad rfl (on (int_of a rfl) (e7 _ K a (by simp only [hh,true_and]; rfl)))) fun hh=>e7 _ K a (by rw [eq_comm]; exact decide_eq_false fun g=>hh ⟨g.1,g.2.1,g.2.2.1,g.2.2.2.1,g.2.2.2.2.1,g.2.2.2.2.2.1,g.2.2.2.2.2.2.1⟩))
  have e5:∀ {N:Mem} (b:Bool),Keep M N→N.nb[j]?=some (.cells h.cs 41)→(b=decide (h.sh=false∧h.ke=false∧h.rf=0∧(h.r0=0∧h.r1=0∧h.r2=0)∧h.pr=0∧h.less=true))→A56_5 (some ⟨2*j,0,none⟩) b N (BK M (h.mt X)):=by
    rintro N b K a rfl
    exact w56_5 (cd (fun hh=>ad rfl (on (int_of a rfl) (e6 _ K a (by simp only [hh,true_and]; rfl)))) fun hh=>e6 _ K a (by rw [eq_comm]; exact decide_eq_false fun g=>hh ⟨g.1,g.2.1,g.2.2.1,g.2.2.2.1,g.2.2.2.2.1,g.2.2.2.2.2.1⟩))
  have e4:∀ {N:Mem} (b:Bool),Keep M N→N.nb[j]?=some (.cells h.cs 41)→(b=decide (h.sh=false∧h.ke=false∧h.rf=0∧(h.r0=0∧h.r1=0∧h.r2=0)∧h.pr=0))→A56_4 (some ⟨2*j,0,none⟩) b N (BK M (h.mt X)):=by
    rintro N b K a rfl
    refine w56_4 (cd (fun hh=>ad rfl (ldA a rfl (Cn.mono c77 ?_))) fun hh=>e5 _ K a (by rw [eq_comm]; exact decide_eq_false fun g=>hh ⟨g.1,g.2.1,g.2.2.1,g.2.2.2.1,g.2.2.2.2.1⟩))
    rintro _ N2 ⟨rfl,K2⟩
    exact ty rfl (e5 _ (K.trans K2) (at_keep a K2) (by simp only [hh,true_and]; cases h.less <;> rfl))
  have e3:∀ {N:Mem} (b:Bool),Keep M N→N.nb[j]?=some (.cells h.cs 41)→(b=decide (h.sh=false∧h.ke=false∧h.rf=0∧(h.r0=0∧h.r1=0∧h.r2=0)))→A56_3 (some ⟨2*j,0,none⟩) b N (BK M (h.mt X)):=by
    rintro N b K a rfl
    exact w56_3 (cd (fun hh=>ad rfl (on (int_of a rfl) (e4 _ K a (by simp only [hh,true_and]; rfl)))) fun hh=>e4 _ K a (by rw [eq_comm]; exact decide_eq_false fun g=>hh ⟨g.1,g.2.1,g.2.2.1,g.2.2.2.1⟩))
  have e2:∀ {N:Mem} (b:Bool),Keep M N→N.nb[j]?=some (.cells h.cs 41)→(b=decide (h.sh=false∧h.ke=false∧h.rf=0))→A56_2 (some ⟨2*j,0,none⟩) b N (BK M (h.mt X)):=by
    rintro N b K a rfl
    exact w56_2 (cd (fun hh=>ad rfl (on (int_of a rfl) (on (int_of a rfl) (on (int_of a rfl) (pu (eq35 ..).1 (ty rfl (e3 _ K a (by simp only [hh,true_and])))))))) fun hh=>e3 _ K a (by rw [eq_comm]; exact decide_eq_false fun g=>hh ⟨g.1,g.2.1,g.2.2.1⟩))
  have e1:∀ {N:Mem} (b:Bool),Keep M N→N.nb[j]?=some (.cells h.cs 41)→(b=decide (h.sh=false∧h.ke=false))→A56_1 (some ⟨2*j,0,none⟩) b N (BK M (h.mt X)):=by
    rintro N b K a rfl
    exact w56_1 (cd (fun hh=>ad rfl (on (int_of a rfl) (e2 _ K a (by simp only [hh,true_and]; rfl)))) fun hh=>e2 _ K a (by rw [eq_comm]; exact decide_eq_false fun g=>hh ⟨g.1,g.2.1⟩))
  exact on (bool_of a rfl) (cnn (fun hh=>on (bool_of a rfl) (e1 _ K a (by simp only [hh,true_and]; cases h.ke <;> rfl))) fun hh=>e1 _ K a (by rw [hh]; rfl))
end
end Go.Zt

/- Layer 20: the program's Check of a frame header,whole. -/
set_option linter.unusedSimpArgs false
set_option linter.unusedVariables false
set_option maxRecDepth 100000
namespace Go.Zt
open Go Go.Sim Go.Proofs Go.RowKit
section
variable {h:Hd} {X:List Sg} {M0 M:Mem} {j i w e:Nat}
theorem s26_6 {b:Bool} {d0 d1 d2 d3 d4 i x:Int} {Q:Value→Mem→Prop} (hi:i<5) (hx:strV Try.prog 36 (.agg #[.int .i64 d0,.int .i64 d1,.int .i64 d2,.int .i64 d3,.int .i64 d4]) (.int .i64 i)=some (.int .i64 x))
    (k:A26_6 (b && decide (-31≤x∧x≤31)) d0 d1 d2 d3 d4 (IntKind.i64.wrap (i+1)) M Q):A26_6 b d0 d1 d2 d3 d4 i M Q:=
  w26_6 (cT (decide_eq_true hi) (pu hx (ty rfl (cn (fun hb=>Cn.eq c55 (ty rfl (w26_9 (w26_11 (by rw [hb] at k; exact k))))) fun hb=>w26_9 (w26_11 (by rw [hb] at k; exact k))))))
theorem s26_3 {x2:Option Addr} {b:Bool} {d0 d1 d2 i x:Int} {Q:Value→Mem→Prop} (hi:i<3) (hx:strV Try.prog 35 (.agg #[.int .i64 d0,.int .i64 d1,.int .i64 d2]) (.int .i64 i)=some (.int .i64 x))
    (k:A26_3 x2 (b && decide (0≤x∧x≤7)) d0 d1 d2 (IntKind.i64.wrap (i+1)) M Q):A26_3 x2 b d0 d1 d2 i M Q:=
  w26_3 (cT (decide_eq_true hi) (pu hx (ty rfl (cn (fun hb=>Cn.eq c55 (ty rfl (w26_5 (w26_8 (by rw [hb] at k; exact k))))) fun hb=>w26_5 (w26_8 (by rw [hb] at k; exact k))))))
def er (b:Bool):Nat:=if b then 0 else 2
theorem and5 {a b c d e:Bool} {pa pb pc pd pe:Prop} [Decidable pa] [Decidable pb] [Decidable pc] [Decidable pd] [Decidable pe] {z:Bool}:
    (((((z && decide pa) && decide pb) && decide pc) && decide pd) && decide pe)=(z && decide (pa∧pb∧pc∧pd∧pe)):=by
  rw [Bool.eq_iff_iff]; simp only [Bool.and_eq_true,decide_eq_true_eq,and_assoc]
theorem and3 {pa pb pc:Prop} [Decidable pa] [Decidable pb] [Decidable pc] {z:Bool}:(((z && decide pa) && decide pb) && decide pc)=(z && decide (pa∧pb∧pc)):=by
  rw [Bool.eq_iff_iff]; simp only [Bool.and_eq_true,decide_eq_true_eq,and_assoc]
theorem e26_1 (K:Keep M0 M) (a:M.nb[j]?=some (.cells h.cs 41)) (b:Bool):A26_1 (some ⟨2*j,0,none⟩) b M (IntK M0 (er (b && decide ((0≤h.r0∧h.r0≤7)∧(0≤h.r1∧h.r1≤7)∧(0≤h.r2∧h.r2≤7)) &&
  decide ((-31≤h.d0∧h.d0≤31)∧(-31≤h.d1∧h.d1≤31)∧(-31≤h.d2∧h.d2≤31)∧(-31≤h.d3∧h.d3≤31)∧(-31≤h.d4∧h.d4≤31))):Nat)):=by
  refine w26_1 (ad rfl (on (int_of a rfl) (on (int_of a rfl) (on (int_of a rfl) ?_))))
  refine s26_3 (by decide) (x:=h.r0) (by kernel_rfl) (s26_3 (by decide) (x:=h.r1) (by kernel_rfl) (s26_3 (by decide) (x:=h.r2) (by kernel_rfl) (w26_3 (cF (by decide) ?_))))
  rw [and3]
  generalize (b && decide ((0≤h.r0∧h.r0≤7)∧(0≤h.r1∧h.r1≤7)∧(0≤h.r2∧h.r2≤7)))=b
  refine ad rfl (on (int_of a rfl) (on (int_of a rfl) (on (int_of a rfl) (on (int_of a rfl) (on (int_of a rfl) ?_)))))
  refine s26_6 (by decide) (x:=h.d0) (by kernel_rfl) (s26_6 (by decide) (x:=h.d1) (by kernel_rfl) (s26_6 (by decide) (x:=h.d2) (by kernel_rfl) (s26_6 (by decide) (x:=h.d3) (by kernel_rfl) (s26_6 (by decide) (x:=h.d4) (by kernel_rfl) (w26_6 (cF (by decide) ?_))))))
  rw [and5 (a:=b) (b:=b) (c:=b) (d:=b) (e:=b)]
  generalize (b && decide ((-31≤h.d0∧h.d0≤31)∧(-31≤h.d1∧h.d1≤31)∧(-31≤h.d2∧h.d2≤31)∧(-31≤h.d3∧h.d3≤31)∧(-31≤h.d4∧h.d4≤31)))=b
  exact cnn (fun hb=>⟨by rw [hb]; rfl,K⟩) fun hb=>⟨by rw [hb]; rfl,K⟩
theorem c26 {w e:Int} (hf:M.floor≤M.nb.size) (hn:h.n=X.length) (hb:h.n≤1048576) (hR:Row M h.A (Sgs X)):Cn Try.prog 26 #[.agg h.cs,.agg #[.int .i64 w,.int .i64 e]] M (IntK M (er (h.may X w e):Nat)):=by
  have a:=Mem.new_at M (.cells h.cs 41)
  have K:Keep M (M.new (.cells h.cs 41)):=.new _ _
  refine w26_0 ?_
  generalize M.new (.cells h.cs 41)=N at a K ⊢
  have s:=Mem.new_at N (.cells #[.int .i64 w,.int .i64 e] 23)
  have K2:Keep N (N.new (.cells #[.int .i64 w,.int .i64 e] 23)):=.new _ _
  have a2:=at_keep a K2
  generalize N.new (.cells #[.int .i64 w,.int .i64 e] 23)=N2 at s K2 a2 ⊢
  have KK:=K.trans K2
  generalize M.nb.size=j at a2
  generalize N.nb.size=i at s
  refine on (int_of s rfl) (on (int_of s rfl) (Cn.mono c14 ?_))
  rintro _ N3 ⟨rfl,K3⟩
  have a3:=at_keep a2 K3
  have s3:=at_keep s K3
  have KK3:=KK.trans K3
  clear a2 s a
  refine ty rfl (on (bool_of a3 rfl) ?_)
  have fin:∀ {N:Mem} (b:Bool),Keep M N→N.nb[j]?=some (.cells h.cs 41)→(b=(mayS w e && (if h.ex then decide (0≤h.sl∧h.sl≤7) && h.mt X
    else decide (h.sl=0∧(0≤h.rf∧h.rf≤255)∧(-1≤h.pr∧h.pr≤7)∧(0≤h.ba∧h.ba≤255)) && logM h.co w && logM h.ro e && h.mayF X && (!h.ke || decide ((h.r0=0∧h.r1=0∧h.r2=0)∧h.pr = -1)))))→A26_1 (some ⟨2*j,0,none⟩) b N (IntK M (er (h.may X w e):Nat)):=by
    intro N b K a hb
    have:=e26_1 K a b
    rw [hb] at this ⊢
    exact this
  have m0:((chkS w e:Nat):Int)=0→mayS w e=true:=chk0
  have m1:((chkS w e:Nat):Int)≠0→mayS w e=false:=chk1
  refine cn (fun hx=>ce (fun hm=>on (int_of a3 rfl) (Cn.eq c55 (ty rfl (cd (fun hs=>ldA a3 rfl (Cn.mono (c56 (fb hf KK3) hn hb (hR.keep KK3)) ?_)) fun hs=>fin _ KK3 a3 ?_)))) fun hm=>fin _ KK3 a3 ?_) fun hx=>?_
  · rintro _ N4 ⟨rfl,K4⟩
    refine ty rfl (fin _ (KK3.trans K4) (at_keep a3 K4) ?_)
    rw [m0 hm,hx,if_pos rfl,decide_eq_true hs]; rfl
  · rw [hx,if_pos rfl,decide_eq_false hs]; simp
  · rw [m1 hm]; rfl
  have sz:mayS w e=true→(16≤w∧w≤256)∧(16≤e∧e≤256):=fun g=>by have:=mayS_of g; omega
  have e14:∀ {N:Mem} (b:Bool),Keep M N→N.nb[j]?=some (.cells h.cs 41)→(b=(mayS w e && (decide (h.sl=0∧(0≤h.rf∧h.rf≤255)∧(-1≤h.pr∧h.pr≤7)∧(0≤h.ba∧h.ba≤255)) && logM h.co w && logM h.ro e && h.mayF X)))→A26_14 (some ⟨2*j,0,none⟩) b N (IntK M (er (h.may X w e):Nat)):=by
    intro N b K a g
    have go:∀ b',b'=(b && (!h.ke || decide ((h.r0=0∧h.r1=0∧h.r2=0)∧h.pr = -1)))→A26_1 (some ⟨2*j,0,none⟩) b' N (IntK M (er (h.may X w e):Nat)):=fun b' g'=>fin b' K a (by rw [g',g,hx,if_neg (by decide),Bool.and_assoc])
    refine w26_14 (cn (fun hb=>ad rfl (on (bool_of a rfl) (cnn (fun hk=>go _ (by rw [hb,hk]; rfl)) fun hk=>ad rfl (on (int_of a rfl) (on (int_of a rfl) (on (int_of a rfl) (pu (eq35 ..).1 (ty rfl (cd (fun hr=>ad rfl (on (int_of a rfl) (go _ ?_))) fun hr=>go _ ?_))))))))) fun hb=>go _ (by rw [hb]; rfl))
    · rw [hb,hk,Bool.eq_iff_iff,beq_iff_eq]; simp [hr]
    · rw [hb,hk]; simp [hr]
  have e13:∀ {N:Mem} (b:Bool),Keep M N→N.nb[j]?=some (.cells h.cs 41)→(b=(mayS w e && (decide (h.sl=0∧(0≤h.rf∧h.rf≤255)∧(-1≤h.pr∧h.pr≤7)∧(0≤h.ba∧h.ba≤255)) && logM h.co w && logM h.ro e)))→A26_13 (some ⟨2*j,0,none⟩) b N (IntK M (er (h.may X w e):Nat)):=by
    intro N b K a g
    refine w26_13 (cn (fun hb'=>ad rfl (ldA a rfl (Cn.mono (c58 (fb hf K) hn hb (hR.keep K)) ?_))) fun hb'=>e14 _ K a (by rw [← Bool.and_assoc,← g,hb']; rfl))
    rintro _ N4 ⟨rfl,K4⟩
    exact ty rfl (e14 _ (K.trans K4) (at_keep a K4) (by rw [← Bool.and_assoc,← g,hb']; rfl))
  have e12:∀ {N:Mem} (b:Bool),Keep M N→N.nb[j]?=some (.cells h.cs 41)→N.nb[i]?=some (.cells #[.int .i64 w,.int .i64 e] 23)→(b=(mayS w e && (decide (h.sl=0∧(0≤h.rf∧h.rf≤255)∧(-1≤h.pr∧h.pr≤7)∧(0≤h.ba∧h.ba≤255)) && logM h.co w)))→A26_12 (some ⟨2*j,0,none⟩) (some ⟨2*i,0,none⟩) b N (IntK M (er (h.may X w e):Nat)):=by
    intro N b K a s g
    refine w26_12 (cn (fun hb'=>ad rfl (on (int_of a rfl) (ad rfl (on (int_of s rfl) (Cn.eq (c57 (sz ?_).2) (ty rfl (e13 _ K a ?_))))))) fun hb'=>e13 _ K a (by rw [← Bool.and_assoc,← g,hb']; rfl))
    · rw [hb',eq_comm,Bool.and_eq_true] at g; exact g.1
    · rw [← Bool.and_assoc,← g,hb']; rfl
  have e10:∀ {N:Mem} (b:Bool),Keep M N→N.nb[j]?=some (.cells h.cs 41)→N.nb[i]?=some (.cells #[.int .i64 w,.int .i64 e] 23)→(b=(mayS w e && decide (h.sl=0∧(0≤h.rf∧h.rf≤255)∧(-1≤h.pr∧h.pr≤7)∧(0≤h.ba∧h.ba≤255))))→A26_10 (some ⟨2*j,0,none⟩) (some ⟨2*i,0,none⟩) b N (IntK M (er (h.may X w e):Nat)):=by
    intro N b K a s g
    refine w26_10 (cn (fun hb'=>ad rfl (on (int_of a rfl) (ad rfl (on (int_of s rfl) (Cn.eq (c57 (sz ?_).1) (ty rfl (e12 _ K a s ?_))))))) fun hb'=>e12 _ K a s (by rw [← Bool.and_assoc,← g,hb']; rfl))
    · rw [hb',eq_comm,Bool.and_eq_true] at g; exact g.1
    · rw [← Bool.and_assoc,← g,hb']; rfl
  have dd:∀ {p q r:Prop} [Decidable p] [Decidable q] [Decidable r] {b:Bool},b=(mayS w e && decide p)→b=true→(p→(q↔r))→decide q=(mayS w e && decide (p∧r)):=by
    intro p q r _ _ _ b g hb hq
    rw [hb,eq_comm,Bool.and_eq_true] at g
    have hp:=of_decide_eq_true g.2
    rw [g.1,Bool.true_and,decide_eq_decide,hq hp]; exact ⟨fun x=>⟨hp,x⟩,fun x=>x.2⟩
  have df:∀ {p r:Prop} [Decidable p] [Decidable r] {b:Bool},b=(mayS w e && decide p)→b=false→false=(mayS w e && decide (p∧r)):=by
    intro p r _ _ b g hb
    rw [hb] at g
    cases hm:mayS w e
    · rfl
    · rw [hm,Bool.true_and] at g
      have:=of_decide_eq_false g.symm
      rw [Bool.true_and,eq_comm]; exact decide_eq_false fun x=>this x.1
  have as4:∀ {p q r s:Prop} [Decidable p] [Decidable q] [Decidable r] [Decidable s] {b:Bool},b=(mayS w e && decide (((p∧q)∧r)∧s))→b=(mayS w e && decide (p∧q∧r∧s)):=by
    intro p q r s _ _ _ _ b g
    rw [g]; congr 1; rw [decide_eq_decide]; exact ⟨fun x=>⟨x.1.1.1,x.1.1.2,x.1.2,x.2⟩,fun x=>⟨⟨⟨x.1,x.2.1⟩,x.2.2.1⟩,x.2.2.2⟩⟩
  have e7:∀ {N:Mem} (b:Bool),Keep M N→N.nb[j]?=some (.cells h.cs 41)→N.nb[i]?=some (.cells #[.int .i64 w,.int .i64 e] 23)→(b=(mayS w e && decide ((h.sl=0∧(0≤h.rf∧h.rf≤255))∧(-1≤h.pr∧h.pr≤7))))→A26_7 (some ⟨2*j,0,none⟩) (some ⟨2*i,0,none⟩) b N (IntK M (er (h.may X w e):Nat)):=by
    intro N b K a s g
    exact w26_7 (cn (fun hb'=>ad rfl (on (int_of a rfl) (Cn.eq c55 (ty rfl (e10 _ K a s (as4 (dd g hb' fun _=>Iff.rfl))))))) fun hb'=>e10 _ K a s (as4 (df g hb')))
  have e4:∀ {N:Mem} (b:Bool),Keep M N→N.nb[j]?=some (.cells h.cs 41)→N.nb[i]?=some (.cells #[.int .i64 w,.int .i64 e] 23)→(b=(mayS w e && decide (h.sl=0∧(0≤h.rf∧h.rf≤255))))→A26_4 (some ⟨2*j,0,none⟩) (some ⟨2*i,0,none⟩) b N (IntK M (er (h.may X w e):Nat)):=by
    intro N b K a s g
    exact w26_4 (cn (fun hb'=>ad rfl (on (int_of a rfl) (Cn.eq c55 (ty rfl (e7 _ K a s (dd g hb' fun _=>Iff.rfl)))))) fun hb'=>e7 _ K a s (df g hb'))
  have e2:∀ {N:Mem} (b:Bool),Keep M N→N.nb[j]?=some (.cells h.cs 41)→N.nb[i]?=some (.cells #[.int .i64 w,.int .i64 e] 23)→(b=(mayS w e && decide (h.sl=0)))→A26_2 (some ⟨2*j,0,none⟩) (some ⟨2*i,0,none⟩) b N (IntK M (er (h.may X w e):Nat)):=by
    intro N b K a s g
    exact w26_2 (cn (fun hb'=>ad rfl (on (int_of a rfl) (Cn.eq c55 (ty rfl (e4 _ K a s (dd g hb' fun _=>Iff.rfl)))))) fun hb'=>e4 _ K a s (df g hb'))
  refine ce (fun hm=>on (int_of a3 rfl) (e2 _ KK3 a3 s3 ?_)) fun hm=>e2 _ KK3 a3 s3 ?_
  · rw [m0 hm]; rfl
  · rw [m1 hm]; rfl
end
end Go.Zt

/- The functions' walks: for each function and each loop a rule of what it comes to. Printed by zw2.py. -/
set_option linter.unusedVariables false
set_option maxRecDepth 100000
namespace Go.Zt
open Go Go.Sim Go.Proofs
def tyZlC0:List Sc:=[.bool,.int .i64,.bool,.bool,.int .i64,.int .i64,.int .i64,.int .i64,.int .i64,.int .i64,.int .i64,.int .i64,.int .i64,.int .i64,.int .i64,.int .i64,.int .i64,.bool,.int .i64,.int .i64,.int .i64,.int .i64,.int .i64,.bool,.int .i64,.int .i64,.sl,.bool,.bool,.bool]
def K27:List (List It × List Nat):=[([.code [1,1,0,1,0,0,1],.code [1,1,0,1,0,1],.code [1,1,1]],[21]),([.rg [1,1,1,0,0] 10,.code [1,1,1,0,1],.code [1,1,1,1]],[2,3,31]),([.rg [1,1,1,0,0] 16,.code [1,1,1,0,1],.code [1,1,1,1]],[2,3,37]),([.code [1,1,1,0,1],.code [1,1,1,1]],[2,3,42]),([.code [1,1,1,1,0,1],.code [1,1,1,1,1]],[2,3,55]),([.code [1,1,1,1,1,0,1,0,0],.lp [1,1,1,1,1,0,1,0,0],.blk 0,.code [1,1,1,1,1,1]],[2,3,5]),([.code [1,1,1,1,1,1,0,1,0,0],.lp [1,1,1,1,1,1,0,1,0,0],.blk 2,.code [1,1,1,1,1,1,1]],[2,3,6]),([.rg [1,1,1,1,1,1,1,0,0] 11,.code [1,1,1,1,1,1,1,0,1],.code [1,1,1,1,1,1,1,1]],[2,3,86]),([.rg [1,1,1,1,1,1,1,0,0] 20,.code [1,1,1,1,1,1,1,0,1],.code [1,1,1,1,1,1,1,1]],[2,3,95]),([.rg [1,1,1,1,1,1,1,0,0] 29,.code [1,1,1,1,1,1,1,0,1],.code [1,1,1,1,1,1,1,1]],[2,104]),([.code [1,1,1,1,1,1,1,0,1],.code [1,1,1,1,1,1,1,1]],[108])]
def Z27:List (List Nat × List Nat):=[([1,1,1,0,0],[10,16,21]),([1,1,1,1,1,1,1,0,0],[11,20,29,33])]
theorem b27:Try.prog.funcs[27]?=some Try.f27∧(Orc.tab Try.prog).lookup 27=none∧Try.f27.body=some (codeOf Try.f27):=⟨by kernel_rfl,by kernel_rfl,by kernel_rfl⟩
def A27_1 (x21:Bool) (M:Mem) (Q:Value→Mem→Prop):Prop:=LvP Try.prog Try.f27 [(21,.bool x21)] [.code [1,1,0,1,0,0,1],.code [1,1,0,1,0,1],.code [1,1,1]] M Q
def A27_2 (x2 x3:Option Addr) (x31:Bool) (M:Mem) (Q:Value→Mem→Prop):Prop:=LvP Try.prog Try.f27 [(2,.pointer x2),(3,.pointer x3),(31,.bool x31)] [.rg [1,1,1,0,0] 10,.code [1,1,1,0,1],.code [1,1,1,1]] M Q
def A27_3 (x2 x3:Option Addr) (x37:Bool) (M:Mem) (Q:Value→Mem→Prop):Prop:=LvP Try.prog Try.f27 [(2,.pointer x2),(3,.pointer x3),(37,.bool x37)] [.rg [1,1,1,0,0] 16,.code [1,1,1,0,1],.code [1,1,1,1]] M Q
def A27_4 (x2 x3:Option Addr) (x42:Bool) (M:Mem) (Q:Value→Mem→Prop):Prop:=LvP Try.prog Try.f27 [(2,.pointer x2),(3,.pointer x3),(42,.bool x42)] [.code [1,1,1,0,1],.code [1,1,1,1]] M Q
def A27_5 (x2 x3:Option Addr) (x55:Bool) (M:Mem) (Q:Value→Mem→Prop):Prop:=LvP Try.prog Try.f27 [(2,.pointer x2),(3,.pointer x3),(55,.bool x55)] [.code [1,1,1,1,0,1],.code [1,1,1,1,1]] M Q
def A27_6 (x2 x3:Option Addr) (x5:Int) (M:Mem) (Q:Value→Mem→Prop):Prop:=LvP Try.prog Try.f27 [(2,.pointer x2),(3,.pointer x3),(5,.int .i64 x5)] [.code [1,1,1,1,1,0,1,0,0],.lp [1,1,1,1,1,0,1,0,0],.blk 0,.code [1,1,1,1,1,1]] M Q
def A27_7 (x2 x3:Option Addr) (x6:Int) (M:Mem) (Q:Value→Mem→Prop):Prop:=LvP Try.prog Try.f27 [(2,.pointer x2),(3,.pointer x3),(6,.int .i64 x6)] [.code [1,1,1,1,1,1,0,1,0,0],.lp [1,1,1,1,1,1,0,1,0,0],.blk 2,.code [1,1,1,1,1,1,1]] M Q
def A27_8 (x2 x3:Option Addr) (x86:Bool) (M:Mem) (Q:Value→Mem→Prop):Prop:=LvP Try.prog Try.f27 [(2,.pointer x2),(3,.pointer x3),(86,.bool x86)] [.rg [1,1,1,1,1,1,1,0,0] 11,.code [1,1,1,1,1,1,1,0,1],.code [1,1,1,1,1,1,1,1]] M Q
def A27_9 (x2 x3:Option Addr) (x95:Bool) (M:Mem) (Q:Value→Mem→Prop):Prop:=LvP Try.prog Try.f27 [(2,.pointer x2),(3,.pointer x3),(95,.bool x95)] [.rg [1,1,1,1,1,1,1,0,0] 20,.code [1,1,1,1,1,1,1,0,1],.code [1,1,1,1,1,1,1,1]] M Q
def A27_10 (x2:Option Addr) (x104:Bool) (M:Mem) (Q:Value→Mem→Prop):Prop:=LvP Try.prog Try.f27 [(2,.pointer x2),(104,.bool x104)] [.rg [1,1,1,1,1,1,1,0,0] 29,.code [1,1,1,1,1,1,1,0,1],.code [1,1,1,1,1,1,1,1]] M Q
def A27_11 (x108:Bool) (M:Mem) (Q:Value→Mem→Prop):Prop:=LvP Try.prog Try.f27 [(108,.bool x108)] [.code [1,1,1,1,1,1,1,0,1],.code [1,1,1,1,1,1,1,1]] M Q
theorem w27_0 {x0:Array Value} {x1_0 x1_1:Int} {M:Mem} {Q:Value→Mem→Prop} (H:
 onS (((M.new (.cells x0 41)).new (.cells #[.int .i64 x1_0,.int .i64 x1_1] 23)).intAt .i64 (2*(M.new (.cells x0 41)).nb.size) 0) fun x1'=>
 onS (((M.new (.cells x0 41)).new (.cells #[.int .i64 x1_0,.int .i64 x1_1] 23)).intAt .i64 (2*(M.new (.cells x0 41)).nb.size) (0+1)) fun x2'=>
 Cn Try.prog 15 #[.agg #[.int .i64 x1',.int .i64 x2']] ((M.new (.cells x0 41)).new (.cells #[.int .i64 x1_0,.int .i64 x1_1] 23)) fun v3' N3'=>
 tyS (asI .i64 v3') fun x4'=>
 cnd (x4' != 0) (
 Q (.int .i64 2) N3') (
 onS (N3'.boolAt (2*M.nb.size) 0) fun b5'=>
 cnd b5' (
 onS (N3'.intAt .i64 (2*M.nb.size) (0+1)) fun x6'=>
 Cn Try.prog 45 #[.int .i64 x6',.int .i64 0,.int .i64 7] N3' fun v7' N7'=>
 tyS (asB v7') fun b8'=>
 cnd b8' (
 ldP tyZlC0 N7' (2*M.nb.size) 0 fun vs9'=>
 onS (N7'.intAt .i64 (2*M.nb.size) (0+1)) fun x10'=>
 Cn Try.prog 30 #[.agg vs9'.toArray,.agg #[.bool true,.int .i64 x10',.bool false,.bool false,.int .i64 0,.int .i64 0,.int .i64 0,.int .i64 0,.int .i64 0,.int .i64 0,.int .i64 0,.int .i64 0,.int .i64 0,.int .i64 0,.int .i64 0,.int .i64 0,.int .i64 0,.bool false,.int .i64 0,.int .i64 0,.int .i64 0,.int .i64 0,.int .i64 0,.bool false,.int .i64 0,.int .i64 0,.slice none 0 0,.bool false,.bool false,.bool false]] N7' fun v11' N11'=>
 tyS (asB v11') fun b12'=>
 A27_1 b12' N11' Q) (
 A27_1 false N7' Q)) (
 onS (N3'.intAt .i64 (2*M.nb.size) (0+1)) fun x13'=>
 cnd (x13' != 0) (
 A27_2 (some ⟨2*M.nb.size,0,none⟩) (some ⟨2*(M.new (.cells x0 41)).nb.size,0,none⟩) true N3' Q) (
 onS (N3'.intAt .i64 (2*M.nb.size) (0+4)) fun x14'=>
 Cn Try.prog 45 #[.int .i64 x14',.int .i64 0,.int .i64 255] N3' fun v15' N15'=>
 tyS (asB v15') fun b16'=>
 A27_2 (some ⟨2*M.nb.size,0,none⟩) (some ⟨2*(M.new (.cells x0 41)).nb.size,0,none⟩) (!b16') N15' Q)))):
 Cn Try.prog 27 #[.agg x0,.agg #[.int .i64 x1_0,.int .i64 x1_1]] M Q:=
 Cn.mk (cuts:=K27) (sp:=Z27) 900 b27 rfl rfl H fun G=>by kernel_rfl
theorem w27_1 {x21:Bool} {M:Mem} {Q:Value→Mem→Prop} (H:
 cnd x21 (
 Q (.int .i64 0) M) (
 Q (.int .i64 2) M)):
 A27_1 x21 M Q:=
 LvP.mk (cuts:=K27) (sp:=Z27) 900 H fun G=>by kernel_rfl
theorem w27_2 {x2 x3:Option Addr} {x31:Bool} {M:Mem} {Q:Value→Mem→Prop} (H:
 cnd x31 (
 A27_3 x2 x3 true M Q) (
 adS x2 fun a17'=>
 onS (M.intAt .i64 a17'.block (a17'.off+8)) fun x18'=>
 Cn Try.prog 45 #[.int .i64 x18',.int .i64 (-1),.int .i64 7] M fun v19' N19'=>
 tyS (asB v19') fun b20'=>
 A27_3 x2 x3 (!b20') N19' Q)):
 A27_2 x2 x3 x31 M Q:=
 LvP.mk (cuts:=K27) (sp:=Z27) 900 H fun G=>by kernel_rfl
theorem w27_3 {x2 x3:Option Addr} {x37:Bool} {M:Mem} {Q:Value→Mem→Prop} (H:
 cnd x37 (
 A27_4 x2 x3 true M Q) (
 adS x2 fun a21'=>
 onS (M.intAt .i64 a21'.block (a21'.off+9)) fun x22'=>
 Cn Try.prog 45 #[.int .i64 x22',.int .i64 0,.int .i64 255] M fun v23' N23'=>
 tyS (asB v23') fun b24'=>
 A27_4 x2 x3 (!b24') N23' Q)):
 A27_3 x2 x3 x37 M Q:=
 LvP.mk (cuts:=K27) (sp:=Z27) 900 H fun G=>by kernel_rfl
theorem w27_4 {x2 x3:Option Addr} {x42:Bool} {M:Mem} {Q:Value→Mem→Prop} (H:
 cnd x42 (
 Q (.int .i64 2) M) (
 adS x2 fun a25'=>
 onS (M.boolAt a25'.block (a25'.off+3)) fun b26'=>
 cnd b26' (
 adS x2 fun a27'=>
 onS (M.intAt .i64 a27'.block (a27'.off+5)) fun x28'=>
 onS (M.intAt .i64 a27'.block (a27'.off+6)) fun x29'=>
 onS (M.intAt .i64 a27'.block (a27'.off+7)) fun x30'=>
 puS (binV Try.prog .neq 35 35 (.agg #[.int .i64 x28',.int .i64 x29',.int .i64 x30']) (.agg #[.int .i64 0,.int .i64 0,.int .i64 0])) fun v31'=>
 tyS (asB v31') fun b32'=>
 cnd b32' (
 A27_5 x2 x3 true M Q) (
 adS x2 fun a33'=>
 onS (M.intAt .i64 a33'.block (a33'.off+8)) fun x34'=>
 A27_5 x2 x3 (x34' != (-1)) M Q)) (
 A27_5 x2 x3 false M Q))):
 A27_4 x2 x3 x42 M Q:=
 LvP.mk (cuts:=K27) (sp:=Z27) 900 H fun G=>by kernel_rfl
theorem w27_5 {x2 x3:Option Addr} {x55:Bool} {M:Mem} {Q:Value→Mem→Prop} (H:
 cnd x55 (
 Q (.int .i64 2) M) (
 A27_6 x2 x3 0 M Q)):
 A27_5 x2 x3 x55 M Q:=
 LvP.mk (cuts:=K27) (sp:=Z27) 900 H fun G=>by kernel_rfl
theorem w27_6 {x2 x3:Option Addr} {x5:Int} {M:Mem} {Q:Value→Mem→Prop} (H:
 cnd (decide (x5<3)) (
 adS x2 fun a35'=>
 ixS (idxA (some ⟨a35'.block,a35'.off+5,none⟩) 3 1 x5) fun a36'=>
 onS (M.intAt .i64 a36'.block a36'.off) fun x37'=>
 Cn Try.prog 45 #[.int .i64 x37',.int .i64 0,.int .i64 7] M fun v38' N38'=>
 tyS (asB v38') fun b39'=>
 cnd (!b39') (
 Q (.int .i64 2) N38') (
 A27_6 x2 x3 (IntKind.i64.wrap (x5+1)) N38' Q)) (
 A27_7 x2 x3 0 M Q)):
 A27_6 x2 x3 x5 M Q:=
 LvP.mk (cuts:=K27) (sp:=Z27) 900 H fun G=>by kernel_rfl
theorem w27_7 {x2 x3:Option Addr} {x6:Int} {M:Mem} {Q:Value→Mem→Prop} (H:
 cnd (decide (x6<5)) (
 adS x2 fun a40'=>
 ixS (idxA (some ⟨a40'.block,a40'.off+10,none⟩) 5 1 x6) fun a41'=>
 onS (M.intAt .i64 a41'.block a41'.off) fun x42'=>
 Cn Try.prog 45 #[.int .i64 x42',.int .i64 (-31),.int .i64 31] M fun v43' N43'=>
 tyS (asB v43') fun b44'=>
 cnd (!b44') (
 Q (.int .i64 2) N43') (
 A27_7 x2 x3 (IntKind.i64.wrap (x6+1)) N43' Q)) (
 adS x2 fun a45'=>
 onS (M.intAt .i64 a45'.block (a45'.off+15)) fun x46'=>
 Cn Try.prog 45 #[.int .i64 x46',.int .i64 0,.int .i64 2] M fun v47' N47'=>
 tyS (asB v47') fun b48'=>
 cnd (!b48') (
 A27_8 x2 x3 true N47' Q) (
 adS x2 fun a49'=>
 onS (N47'.intAt .i64 a49'.block (a49'.off+16)) fun x50'=>
 Cn Try.prog 45 #[.int .i64 x50',.int .i64 0,.int .i64 2] N47' fun v51' N51'=>
 tyS (asB v51') fun b52'=>
 A27_8 x2 x3 (!b52') N51' Q))):
 A27_7 x2 x3 x6 M Q:=
 LvP.mk (cuts:=K27) (sp:=Z27) 900 H fun G=>by kernel_rfl
theorem w27_8 {x2 x3:Option Addr} {x86:Bool} {M:Mem} {Q:Value→Mem→Prop} (H:
 cnd x86 (
 A27_9 x2 x3 true M Q) (
 adS x2 fun a53'=>
 onS (M.intAt .i64 a53'.block (a53'.off+15)) fun x54'=>
 puS (binV Try.prog .shl 3 3 (.int .i64 1) (.int .i64 x54')) fun v55'=>
 tyS (asI .i64 v55') fun x56'=>
 adS x3 fun a57'=>
 onS (M.intAt .i64 a57'.block a57'.off) fun x58'=>
 Cn Try.prog 59 #[.int .i64 x58'] { M with floor:=M.nb.size } fun v59' N59'=>
 tyS (asI .i64 v59') fun x60'=>
 A27_9 x2 x3 (decide (x56' > x60')) { N59' with floor:=M.floor } Q)):
 A27_8 x2 x3 x86 M Q:=
 LvP.mk (cuts:=K27) (sp:=Z27) 900 H fun G=>by kernel_rfl
theorem w27_9 {x2 x3:Option Addr} {x95:Bool} {M:Mem} {Q:Value→Mem→Prop} (H:
 cnd x95 (
 A27_10 x2 true M Q) (
 adS x2 fun a61'=>
 onS (M.intAt .i64 a61'.block (a61'.off+16)) fun x62'=>
 puS (binV Try.prog .shl 3 3 (.int .i64 1) (.int .i64 x62')) fun v63'=>
 tyS (asI .i64 v63') fun x64'=>
 adS x3 fun a65'=>
 onS (M.intAt .i64 a65'.block (a65'.off+1)) fun x66'=>
 Cn Try.prog 59 #[.int .i64 x66'] { M with floor:=M.nb.size } fun v67' N67'=>
 tyS (asI .i64 v67') fun x68'=>
 A27_10 x2 (decide (x64' > x68')) { N67' with floor:=M.floor } Q)):
 A27_9 x2 x3 x95 M Q:=
 LvP.mk (cuts:=K27) (sp:=Z27) 900 H fun G=>by kernel_rfl
theorem w27_10 {x2:Option Addr} {x104:Bool} {M:Mem} {Q:Value→Mem→Prop} (H:
 cnd x104 (
 A27_11 true M Q) (
 adS x2 fun a69'=>
 ldP tyZlC0 M a69'.block a69'.off fun vs70'=>
 Cn Try.prog 60 #[.agg vs70'.toArray] M fun v71' N71'=>
 tyS (asB v71') fun b72'=>
 A27_11 (!b72') N71' Q)):
 A27_10 x2 x104 M Q:=
 LvP.mk (cuts:=K27) (sp:=Z27) 900 H fun G=>by kernel_rfl
theorem w27_11 {x108:Bool} {M:Mem} {Q:Value→Mem→Prop} (H:
 cnd x108 (
 Q (.int .i64 2) M) (
 Q (.int .i64 0) M)):
 A27_11 x108 M Q:=
 LvP.mk (cuts:=K27) (sp:=Z27) 900 H fun G=>by kernel_rfl
def K59:List (List It × List Nat):=[]
def Z59:List (List Nat × List Nat):=[]
theorem b59:Try.prog.funcs[59]?=some Try.f59∧(Orc.tab Try.prog).lookup 59=none∧Try.f59.body=some (codeOf Try.f59):=⟨by kernel_rfl,by kernel_rfl,by kernel_rfl⟩
theorem w59_0 {x0:Int} {M:Mem} {Q:Value→Mem→Prop} (H:
 Q (.int .i64 (IntKind.i64.wrap ((IntKind.i64.wrap (x0+63)).tdiv 64))) M):
 Cn Try.prog 59 #[.int .i64 x0] M Q:=
 Cn.mk (cuts:=K59) (sp:=Z59) 900 b59 rfl rfl H fun G=>by kernel_rfl
def K54:List (List It × List Nat):=[]
def Z54:List (List Nat × List Nat):=[]
theorem b54:Try.prog.funcs[54]?=some Try.f54∧(Orc.tab Try.prog).lookup 54=none∧Try.f54.body=some (codeOf Try.f54):=⟨by kernel_rfl,by kernel_rfl,by kernel_rfl⟩
theorem w54_0 {x0:Array Value} {M:Mem} {Q:Value→Mem→Prop} (H:
 onS ((M.new (.cells x0 41)).intAt .i64 (2*M.nb.size) (0+9)) fun x1'=>
 cnd (x1' == 0) (
 onS ((M.new (.cells x0 41)).intAt .i64 (2*M.nb.size) (0+10)) fun x2'=>
 onS ((M.new (.cells x0 41)).intAt .i64 (2*M.nb.size) (0+11)) fun x3'=>
 onS ((M.new (.cells x0 41)).intAt .i64 (2*M.nb.size) (0+12)) fun x4'=>
 onS ((M.new (.cells x0 41)).intAt .i64 (2*M.nb.size) (0+13)) fun x5'=>
 onS ((M.new (.cells x0 41)).intAt .i64 (2*M.nb.size) (0+14)) fun x6'=>
 puS (binV Try.prog .eql 36 36 (.agg #[.int .i64 x2',.int .i64 x3',.int .i64 x4',.int .i64 x5',.int .i64 x6']) (.agg #[.int .i64 0,.int .i64 0,.int .i64 0,.int .i64 0,.int .i64 0])) fun v7'=>
 tyS (asB v7') fun b8'=>
 Q (.bool b8') (M.new (.cells x0 41))) (
 Q (.bool false) (M.new (.cells x0 41)))):
 Cn Try.prog 54 #[.agg x0] M Q:=
 Cn.mk (cuts:=K54) (sp:=Z54) 900 b54 rfl rfl H fun G=>by kernel_rfl
def K30:List (List It × List Nat):=[([.rg [1,0,0] 13,.code [1,0,1],.code [1,1]],[2,3,18]),([.rg [1,0,0] 20,.code [1,0,1],.code [1,1]],[2,3,25]),([.rg [1,0,0] 27,.code [1,0,1],.code [1,1]],[2,3,32]),([.rg [1,0,0] 34,.code [1,0,1],.code [1,1]],[2,3,39]),([.rg [1,0,0] 41,.code [1,0,1],.code [1,1]],[2,3,46]),([.rg [1,0,0] 48,.code [1,0,1],.code [1,1]],[2,3,53]),([.rg [1,0,0] 55,.code [1,0,1],.code [1,1]],[2,3,60]),([.rg [1,0,0] 62,.code [1,0,1],.code [1,1]],[2,3,67]),([.rg [1,0,0] 69,.code [1,0,1],.code [1,1]],[2,3,74]),([.rg [1,0,0] 76,.code [1,0,1],.code [1,1]],[2,3,81]),([.code [1,0,1],.code [1,1]],[2,3,87]),([.rg [1,1,0,0] 13,.code [1,1,0,1],.code [1,1,1]],[2,3,100]),([.rg [1,1,0,0] 20,.code [1,1,0,1],.code [1,1,1]],[2,3,107]),([.rg [1,1,0,0] 27,.code [1,1,0,1],.code [1,1,1]],[2,3,114]),([.rg [1,1,0,0] 34,.code [1,1,0,1],.code [1,1,1]],[2,3,121]),([.rg [1,1,0,0] 41,.code [1,1,0,1],.code [1,1,1]],[2,3,128]),([.code [1,1,0,1],.code [1,1,1]],[2,3,136]),([.code [1,1,1,0,1,0,0],.lp [1,1,1,0,1,0,0],.blk 0,.code [1,1,1,1]],[2,3,5])]
def Z30:List (List Nat × List Nat):=[([1,0,0],[13,20,27,34,41,48,55,62,69,76,82]),([1,1,0,0],[13,20,27,34,41,49])]
theorem b30:Try.prog.funcs[30]?=some Try.f30∧(Orc.tab Try.prog).lookup 30=none∧Try.f30.body=some (codeOf Try.f30):=⟨by kernel_rfl,by kernel_rfl,by kernel_rfl⟩
def A30_1 (x2 x3:Option Addr) (x18:Bool) (M:Mem) (Q:Value→Mem→Prop):Prop:=LvP Try.prog Try.f30 [(2,.pointer x2),(3,.pointer x3),(18,.bool x18)] [.rg [1,0,0] 13,.code [1,0,1],.code [1,1]] M Q
def A30_2 (x2 x3:Option Addr) (x25:Bool) (M:Mem) (Q:Value→Mem→Prop):Prop:=LvP Try.prog Try.f30 [(2,.pointer x2),(3,.pointer x3),(25,.bool x25)] [.rg [1,0,0] 20,.code [1,0,1],.code [1,1]] M Q
def A30_3 (x2 x3:Option Addr) (x32:Bool) (M:Mem) (Q:Value→Mem→Prop):Prop:=LvP Try.prog Try.f30 [(2,.pointer x2),(3,.pointer x3),(32,.bool x32)] [.rg [1,0,0] 27,.code [1,0,1],.code [1,1]] M Q
def A30_4 (x2 x3:Option Addr) (x39:Bool) (M:Mem) (Q:Value→Mem→Prop):Prop:=LvP Try.prog Try.f30 [(2,.pointer x2),(3,.pointer x3),(39,.bool x39)] [.rg [1,0,0] 34,.code [1,0,1],.code [1,1]] M Q
def A30_5 (x2 x3:Option Addr) (x46:Bool) (M:Mem) (Q:Value→Mem→Prop):Prop:=LvP Try.prog Try.f30 [(2,.pointer x2),(3,.pointer x3),(46,.bool x46)] [.rg [1,0,0] 41,.code [1,0,1],.code [1,1]] M Q
def A30_6 (x2 x3:Option Addr) (x53:Bool) (M:Mem) (Q:Value→Mem→Prop):Prop:=LvP Try.prog Try.f30 [(2,.pointer x2),(3,.pointer x3),(53,.bool x53)] [.rg [1,0,0] 48,.code [1,0,1],.code [1,1]] M Q
def A30_7 (x2 x3:Option Addr) (x60:Bool) (M:Mem) (Q:Value→Mem→Prop):Prop:=LvP Try.prog Try.f30 [(2,.pointer x2),(3,.pointer x3),(60,.bool x60)] [.rg [1,0,0] 55,.code [1,0,1],.code [1,1]] M Q
def A30_8 (x2 x3:Option Addr) (x67:Bool) (M:Mem) (Q:Value→Mem→Prop):Prop:=LvP Try.prog Try.f30 [(2,.pointer x2),(3,.pointer x3),(67,.bool x67)] [.rg [1,0,0] 62,.code [1,0,1],.code [1,1]] M Q
def A30_9 (x2 x3:Option Addr) (x74:Bool) (M:Mem) (Q:Value→Mem→Prop):Prop:=LvP Try.prog Try.f30 [(2,.pointer x2),(3,.pointer x3),(74,.bool x74)] [.rg [1,0,0] 69,.code [1,0,1],.code [1,1]] M Q
def A30_10 (x2 x3:Option Addr) (x81:Bool) (M:Mem) (Q:Value→Mem→Prop):Prop:=LvP Try.prog Try.f30 [(2,.pointer x2),(3,.pointer x3),(81,.bool x81)] [.rg [1,0,0] 76,.code [1,0,1],.code [1,1]] M Q
def A30_11 (x2 x3:Option Addr) (x87:Bool) (M:Mem) (Q:Value→Mem→Prop):Prop:=LvP Try.prog Try.f30 [(2,.pointer x2),(3,.pointer x3),(87,.bool x87)] [.code [1,0,1],.code [1,1]] M Q
def A30_12 (x2 x3:Option Addr) (x100:Bool) (M:Mem) (Q:Value→Mem→Prop):Prop:=LvP Try.prog Try.f30 [(2,.pointer x2),(3,.pointer x3),(100,.bool x100)] [.rg [1,1,0,0] 13,.code [1,1,0,1],.code [1,1,1]] M Q
def A30_13 (x2 x3:Option Addr) (x107:Bool) (M:Mem) (Q:Value→Mem→Prop):Prop:=LvP Try.prog Try.f30 [(2,.pointer x2),(3,.pointer x3),(107,.bool x107)] [.rg [1,1,0,0] 20,.code [1,1,0,1],.code [1,1,1]] M Q
def A30_14 (x2 x3:Option Addr) (x114:Bool) (M:Mem) (Q:Value→Mem→Prop):Prop:=LvP Try.prog Try.f30 [(2,.pointer x2),(3,.pointer x3),(114,.bool x114)] [.rg [1,1,0,0] 27,.code [1,1,0,1],.code [1,1,1]] M Q
def A30_15 (x2 x3:Option Addr) (x121:Bool) (M:Mem) (Q:Value→Mem→Prop):Prop:=LvP Try.prog Try.f30 [(2,.pointer x2),(3,.pointer x3),(121,.bool x121)] [.rg [1,1,0,0] 34,.code [1,1,0,1],.code [1,1,1]] M Q
def A30_16 (x2 x3:Option Addr) (x128:Bool) (M:Mem) (Q:Value→Mem→Prop):Prop:=LvP Try.prog Try.f30 [(2,.pointer x2),(3,.pointer x3),(128,.bool x128)] [.rg [1,1,0,0] 41,.code [1,1,0,1],.code [1,1,1]] M Q
def A30_17 (x2 x3:Option Addr) (x136:Bool) (M:Mem) (Q:Value→Mem→Prop):Prop:=LvP Try.prog Try.f30 [(2,.pointer x2),(3,.pointer x3),(136,.bool x136)] [.code [1,1,0,1],.code [1,1,1]] M Q
def A30_18 (x2 x3:Option Addr) (x5:Int) (M:Mem) (Q:Value→Mem→Prop):Prop:=LvP Try.prog Try.f30 [(2,.pointer x2),(3,.pointer x3),(5,.int .i64 x5)] [.code [1,1,1,0,1,0,0],.lp [1,1,1,0,1,0,0],.blk 0,.code [1,1,1,1]] M Q
theorem w30_0 {x0 x1:Array Value} {M:Mem} {Q:Value→Mem→Prop} (H:
 onS (((M.new (.cells x0 41)).new (.cells x1 41)).boolAt (2*M.nb.size) 0) fun b1'=>
 onS (((M.new (.cells x0 41)).new (.cells x1 41)).boolAt (2*(M.new (.cells x0 41)).nb.size) 0) fun b2'=>
 cnd (!(b1' == b2')) (
 A30_1 (some ⟨2*M.nb.size,0,none⟩) (some ⟨2*(M.new (.cells x0 41)).nb.size,0,none⟩) true ((M.new (.cells x0 41)).new (.cells x1 41)) Q) (
 onS (((M.new (.cells x0 41)).new (.cells x1 41)).intAt .i64 (2*M.nb.size) (0+1)) fun x3'=>
 onS (((M.new (.cells x0 41)).new (.cells x1 41)).intAt .i64 (2*(M.new (.cells x0 41)).nb.size) (0+1)) fun x4'=>
 A30_1 (some ⟨2*M.nb.size,0,none⟩) (some ⟨2*(M.new (.cells x0 41)).nb.size,0,none⟩) (x3' != x4') ((M.new (.cells x0 41)).new (.cells x1 41)) Q)):
 Cn Try.prog 30 #[.agg x0,.agg x1] M Q:=
 Cn.mk (cuts:=K30) (sp:=Z30) 900 b30 rfl rfl H fun G=>by kernel_rfl
theorem w30_1 {x2 x3:Option Addr} {x18:Bool} {M:Mem} {Q:Value→Mem→Prop} (H:
 cnd x18 (
 A30_2 x2 x3 true M Q) (
 adS x2 fun a5'=>
 onS (M.boolAt a5'.block (a5'.off+2)) fun b6'=>
 adS x3 fun a7'=>
 onS (M.boolAt a7'.block (a7'.off+2)) fun b8'=>
 A30_2 x2 x3 (!(b6' == b8')) M Q)):
 A30_1 x2 x3 x18 M Q:=
 LvP.mk (cuts:=K30) (sp:=Z30) 900 H fun G=>by kernel_rfl
theorem w30_2 {x2 x3:Option Addr} {x25:Bool} {M:Mem} {Q:Value→Mem→Prop} (H:
 cnd x25 (
 A30_3 x2 x3 true M Q) (
 adS x2 fun a9'=>
 onS (M.boolAt a9'.block (a9'.off+3)) fun b10'=>
 adS x3 fun a11'=>
 onS (M.boolAt a11'.block (a11'.off+3)) fun b12'=>
 A30_3 x2 x3 (!(b10' == b12')) M Q)):
 A30_2 x2 x3 x25 M Q:=
 LvP.mk (cuts:=K30) (sp:=Z30) 900 H fun G=>by kernel_rfl
theorem w30_3 {x2 x3:Option Addr} {x32:Bool} {M:Mem} {Q:Value→Mem→Prop} (H:
 cnd x32 (
 A30_4 x2 x3 true M Q) (
 adS x2 fun a13'=>
 onS (M.intAt .i64 a13'.block (a13'.off+4)) fun x14'=>
 adS x3 fun a15'=>
 onS (M.intAt .i64 a15'.block (a15'.off+4)) fun x16'=>
 A30_4 x2 x3 (x14' != x16') M Q)):
 A30_3 x2 x3 x32 M Q:=
 LvP.mk (cuts:=K30) (sp:=Z30) 900 H fun G=>by kernel_rfl
theorem w30_4 {x2 x3:Option Addr} {x39:Bool} {M:Mem} {Q:Value→Mem→Prop} (H:
 cnd x39 (
 A30_5 x2 x3 true M Q) (
 adS x2 fun a17'=>
 onS (M.intAt .i64 a17'.block (a17'.off+5)) fun x18'=>
 onS (M.intAt .i64 a17'.block (a17'.off+6)) fun x19'=>
 onS (M.intAt .i64 a17'.block (a17'.off+7)) fun x20'=>
 adS x3 fun a21'=>
 onS (M.intAt .i64 a21'.block (a21'.off+5)) fun x22'=>
 onS (M.intAt .i64 a21'.block (a21'.off+6)) fun x23'=>
 onS (M.intAt .i64 a21'.block (a21'.off+7)) fun x24'=>
 puS (binV Try.prog .neq 35 35 (.agg #[.int .i64 x18',.int .i64 x19',.int .i64 x20']) (.agg #[.int .i64 x22',.int .i64 x23',.int .i64 x24'])) fun v25'=>
 tyS (asB v25') fun b26'=>
 A30_5 x2 x3 b26' M Q)):
 A30_4 x2 x3 x39 M Q:=
 LvP.mk (cuts:=K30) (sp:=Z30) 900 H fun G=>by kernel_rfl
theorem w30_5 {x2 x3:Option Addr} {x46:Bool} {M:Mem} {Q:Value→Mem→Prop} (H:
 cnd x46 (
 A30_6 x2 x3 true M Q) (
 adS x2 fun a27'=>
 onS (M.intAt .i64 a27'.block (a27'.off+8)) fun x28'=>
 adS x3 fun a29'=>
 onS (M.intAt .i64 a29'.block (a29'.off+8)) fun x30'=>
 A30_6 x2 x3 (x28' != x30') M Q)):
 A30_5 x2 x3 x46 M Q:=
 LvP.mk (cuts:=K30) (sp:=Z30) 900 H fun G=>by kernel_rfl
theorem w30_6 {x2 x3:Option Addr} {x53:Bool} {M:Mem} {Q:Value→Mem→Prop} (H:
 cnd x53 (
 A30_7 x2 x3 true M Q) (
 adS x2 fun a31'=>
 onS (M.intAt .i64 a31'.block (a31'.off+9)) fun x32'=>
 adS x3 fun a33'=>
 onS (M.intAt .i64 a33'.block (a33'.off+9)) fun x34'=>
 A30_7 x2 x3 (x32' != x34') M Q)):
 A30_6 x2 x3 x53 M Q:=
 LvP.mk (cuts:=K30) (sp:=Z30) 900 H fun G=>by kernel_rfl
theorem w30_7 {x2 x3:Option Addr} {x60:Bool} {M:Mem} {Q:Value→Mem→Prop} (H:
 cnd x60 (
 A30_8 x2 x3 true M Q) (
 adS x2 fun a35'=>
 onS (M.intAt .i64 a35'.block (a35'.off+10)) fun x36'=>
 onS (M.intAt .i64 a35'.block (a35'.off+11)) fun x37'=>
 onS (M.intAt .i64 a35'.block (a35'.off+12)) fun x38'=>
 onS (M.intAt .i64 a35'.block (a35'.off+13)) fun x39'=>
 onS (M.intAt .i64 a35'.block (a35'.off+14)) fun x40'=>
 adS x3 fun a41'=>
 onS (M.intAt .i64 a41'.block (a41'.off+10)) fun x42'=>
 onS (M.intAt .i64 a41'.block (a41'.off+11)) fun x43'=>
 onS (M.intAt .i64 a41'.block (a41'.off+12)) fun x44'=>
 onS (M.intAt .i64 a41'.block (a41'.off+13)) fun x45'=>
 onS (M.intAt .i64 a41'.block (a41'.off+14)) fun x46'=>
 puS (binV Try.prog .neq 36 36 (.agg #[.int .i64 x36',.int .i64 x37',.int .i64 x38',.int .i64 x39',.int .i64 x40']) (.agg #[.int .i64 x42',.int .i64 x43',.int .i64 x44',.int .i64 x45',.int .i64 x46'])) fun v47'=>
 tyS (asB v47') fun b48'=>
 A30_8 x2 x3 b48' M Q)):
 A30_7 x2 x3 x60 M Q:=
 LvP.mk (cuts:=K30) (sp:=Z30) 900 H fun G=>by kernel_rfl
theorem w30_8 {x2 x3:Option Addr} {x67:Bool} {M:Mem} {Q:Value→Mem→Prop} (H:
 cnd x67 (
 A30_9 x2 x3 true M Q) (
 adS x2 fun a49'=>
 onS (M.intAt .i64 a49'.block (a49'.off+15)) fun x50'=>
 adS x3 fun a51'=>
 onS (M.intAt .i64 a51'.block (a51'.off+15)) fun x52'=>
 A30_9 x2 x3 (x50' != x52') M Q)):
 A30_8 x2 x3 x67 M Q:=
 LvP.mk (cuts:=K30) (sp:=Z30) 900 H fun G=>by kernel_rfl
theorem w30_9 {x2 x3:Option Addr} {x74:Bool} {M:Mem} {Q:Value→Mem→Prop} (H:
 cnd x74 (
 A30_10 x2 x3 true M Q) (
 adS x2 fun a53'=>
 onS (M.intAt .i64 a53'.block (a53'.off+16)) fun x54'=>
 adS x3 fun a55'=>
 onS (M.intAt .i64 a55'.block (a55'.off+16)) fun x56'=>
 A30_10 x2 x3 (x54' != x56') M Q)):
 A30_9 x2 x3 x74 M Q:=
 LvP.mk (cuts:=K30) (sp:=Z30) 900 H fun G=>by kernel_rfl
theorem w30_10 {x2 x3:Option Addr} {x81:Bool} {M:Mem} {Q:Value→Mem→Prop} (H:
 cnd x81 (
 A30_11 x2 x3 true M Q) (
 adS x2 fun a57'=>
 onS (M.boolAt a57'.block (a57'.off+17)) fun b58'=>
 adS x3 fun a59'=>
 onS (M.boolAt a59'.block (a59'.off+17)) fun b60'=>
 A30_11 x2 x3 (!(b58' == b60')) M Q)):
 A30_10 x2 x3 x81 M Q:=
 LvP.mk (cuts:=K30) (sp:=Z30) 900 H fun G=>by kernel_rfl
theorem w30_11 {x2 x3:Option Addr} {x87:Bool} {M:Mem} {Q:Value→Mem→Prop} (H:
 cnd x87 (
 Q (.bool false) M) (
 adS x2 fun a61'=>
 onS (M.intAt .i64 a61'.block (a61'.off+18)) fun x62'=>
 onS (M.intAt .i64 a61'.block (a61'.off+19)) fun x63'=>
 onS (M.intAt .i64 a61'.block (a61'.off+20)) fun x64'=>
 onS (M.intAt .i64 a61'.block (a61'.off+21)) fun x65'=>
 adS x3 fun a66'=>
 onS (M.intAt .i64 a66'.block (a66'.off+18)) fun x67'=>
 onS (M.intAt .i64 a66'.block (a66'.off+19)) fun x68'=>
 onS (M.intAt .i64 a66'.block (a66'.off+20)) fun x69'=>
 onS (M.intAt .i64 a66'.block (a66'.off+21)) fun x70'=>
 puS (binV Try.prog .neq 37 37 (.agg #[.int .i64 x62',.int .i64 x63',.int .i64 x64',.int .i64 x65']) (.agg #[.int .i64 x67',.int .i64 x68',.int .i64 x69',.int .i64 x70'])) fun v71'=>
 tyS (asB v71') fun b72'=>
 cnd b72' (
 A30_12 x2 x3 true M Q) (
 adS x2 fun a73'=>
 onS (M.intAt .i64 a73'.block (a73'.off+22)) fun x74'=>
 adS x3 fun a75'=>
 onS (M.intAt .i64 a75'.block (a75'.off+22)) fun x76'=>
 A30_12 x2 x3 (x74' != x76') M Q))):
 A30_11 x2 x3 x87 M Q:=
 LvP.mk (cuts:=K30) (sp:=Z30) 900 H fun G=>by kernel_rfl
theorem w30_12 {x2 x3:Option Addr} {x100:Bool} {M:Mem} {Q:Value→Mem→Prop} (H:
 cnd x100 (
 A30_13 x2 x3 true M Q) (
 adS x2 fun a77'=>
 onS (M.boolAt a77'.block (a77'.off+23)) fun b78'=>
 adS x3 fun a79'=>
 onS (M.boolAt a79'.block (a79'.off+23)) fun b80'=>
 A30_13 x2 x3 (!(b78' == b80')) M Q)):
 A30_12 x2 x3 x100 M Q:=
 LvP.mk (cuts:=K30) (sp:=Z30) 900 H fun G=>by kernel_rfl
theorem w30_13 {x2 x3:Option Addr} {x107:Bool} {M:Mem} {Q:Value→Mem→Prop} (H:
 cnd x107 (
 A30_14 x2 x3 true M Q) (
 adS x2 fun a81'=>
 onS (M.intAt .i64 a81'.block (a81'.off+24)) fun x82'=>
 adS x3 fun a83'=>
 onS (M.intAt .i64 a83'.block (a83'.off+24)) fun x84'=>
 A30_14 x2 x3 (x82' != x84') M Q)):
 A30_13 x2 x3 x107 M Q:=
 LvP.mk (cuts:=K30) (sp:=Z30) 900 H fun G=>by kernel_rfl
theorem w30_14 {x2 x3:Option Addr} {x114:Bool} {M:Mem} {Q:Value→Mem→Prop} (H:
 cnd x114 (
 A30_15 x2 x3 true M Q) (
 adS x2 fun a85'=>
 onS (M.intAt .i64 a85'.block (a85'.off+25)) fun x86'=>
 adS x3 fun a87'=>
 onS (M.intAt .i64 a87'.block (a87'.off+25)) fun x88'=>
 A30_15 x2 x3 (x86' != x88') M Q)):
 A30_14 x2 x3 x114 M Q:=
 LvP.mk (cuts:=K30) (sp:=Z30) 900 H fun G=>by kernel_rfl
theorem w30_15 {x2 x3:Option Addr} {x121:Bool} {M:Mem} {Q:Value→Mem→Prop} (H:
 cnd x121 (
 A30_16 x2 x3 true M Q) (
 adS x2 fun a89'=>
 onS (M.boolAt a89'.block (a89'.off+27)) fun b90'=>
 onS (M.boolAt a89'.block (a89'.off+28)) fun b91'=>
 onS (M.boolAt a89'.block (a89'.off+29)) fun b92'=>
 adS x3 fun a93'=>
 onS (M.boolAt a93'.block (a93'.off+27)) fun b94'=>
 onS (M.boolAt a93'.block (a93'.off+28)) fun b95'=>
 onS (M.boolAt a93'.block (a93'.off+29)) fun b96'=>
 puS (binV Try.prog .neq 39 39 (.agg #[.bool b90',.bool b91',.bool b92']) (.agg #[.bool b94',.bool b95',.bool b96'])) fun v97'=>
 tyS (asB v97') fun b98'=>
 A30_16 x2 x3 b98' M Q)):
 A30_15 x2 x3 x121 M Q:=
 LvP.mk (cuts:=K30) (sp:=Z30) 900 H fun G=>by kernel_rfl
theorem w30_16 {x2 x3:Option Addr} {x128:Bool} {M:Mem} {Q:Value→Mem→Prop} (H:
 cnd x128 (
 A30_17 x2 x3 true M Q) (
 adS x2 fun a99'=>
 onS (M.slAt a99'.block (a99'.off+26)) fun s100'=>
 adS x3 fun a101'=>
 onS (M.slAt a101'.block (a101'.off+26)) fun s102'=>
 A30_17 x2 x3 (((s100'.2.1:Int)) != ((s102'.2.1:Int))) M Q)):
 A30_16 x2 x3 x128 M Q:=
 LvP.mk (cuts:=K30) (sp:=Z30) 900 H fun G=>by kernel_rfl
theorem w30_17 {x2 x3:Option Addr} {x136:Bool} {M:Mem} {Q:Value→Mem→Prop} (H:
 cnd x136 (
 Q (.bool false) M) (
 A30_18 x2 x3 0 M Q)):
 A30_17 x2 x3 x136 M Q:=
 LvP.mk (cuts:=K30) (sp:=Z30) 900 H fun G=>by kernel_rfl
theorem w30_18 {x2 x3:Option Addr} {x5:Int} {M:Mem} {Q:Value→Mem→Prop} (H:
 adS x2 fun a103'=>
 onS (M.slAt a103'.block (a103'.off+26)) fun s104'=>
 cnd (decide (x5<((s104'.2.1:Int)))) (
 adS x2 fun a105'=>
 onS (M.slAt a105'.block (a105'.off+26)) fun s106'=>
 ixS (idxA s106'.1 (s106'.2.1) 4 x5) fun a107'=>
 onS (M.intAt .i64 a107'.block a107'.off) fun x108'=>
 onS (M.intAt .i64 a107'.block (a107'.off+1)) fun x109'=>
 onS (M.intAt .i64 a107'.block (a107'.off+2)) fun x110'=>
 onS (M.intAt .i64 a107'.block (a107'.off+3)) fun x111'=>
 adS x3 fun a112'=>
 onS (M.slAt a112'.block (a112'.off+26)) fun s113'=>
 ixS (idxA s113'.1 (s113'.2.1) 4 x5) fun a114'=>
 onS (M.intAt .i64 a114'.block a114'.off) fun x115'=>
 onS (M.intAt .i64 a114'.block (a114'.off+1)) fun x116'=>
 onS (M.intAt .i64 a114'.block (a114'.off+2)) fun x117'=>
 onS (M.intAt .i64 a114'.block (a114'.off+3)) fun x118'=>
 puS (binV Try.prog .neq 96 96 (.agg #[.int .i64 x108',.int .i64 x109',.int .i64 x110',.int .i64 x111']) (.agg #[.int .i64 x115',.int .i64 x116',.int .i64 x117',.int .i64 x118'])) fun v119'=>
 tyS (asB v119') fun b120'=>
 cnd b120' (
 Q (.bool false) M) (
 A30_18 x2 x3 (IntKind.i64.wrap (x5+1)) M Q)) (
 Q (.bool true) M)):
 A30_18 x2 x3 x5 M Q:=
 LvP.mk (cuts:=K30) (sp:=Z30) 900 H fun G=>by kernel_rfl
def K60:List (List It × List Nat):=[([.rg [1,0,1,0,0] 10,.code [1,0,1,0,1],.code [1,1]],[1,17]),([.code [1,1,0,1,0,0],.lp [1,1,0,1,0,0],.blk 0,.code [1,1,1]],[1,3]),([.rg [1,0,1,0,0] 15,.code [1,0,1,0,1],.code [1,1]],[1,22]),([.code [1,1,1,1,1,0,1],.code [1,1,1,1,1,1]],[1,93]),([.rg [1,0,1,0,0] 20,.code [1,0,1,0,1],.code [1,1]],[1,27]),([.code [1,1,1,1,1,1,0,1,0,0],.lp [1,1,1,1,1,1,0,1,0,0],.blk 2,.code [1,1,1,1,1,1,1]],[1,4]),([.rg [1,0,1,0,0] 25,.code [1,0,1,0,1],.code [1,1]],[1,32]),([.rg [1,1,1,1,1,1,0,1,0,0,1,0,0,1,0] 11,.code [1,1,1,1,1,1,0,1,0,0,1,0,0,1,1],.blk 3,.code [1,1,1,1,1,1,0,1,0,0,1,1],.lp [1,1,1,1,1,1,0,1,0,0],.blk 2,.code [1,1,1,1,1,1,1]],[1,4,5,116]),([.rg [1,0,1,0,0] 31,.code [1,0,1,0,1],.code [1,1]],[1,38]),([.rg [1,1,1,1,1,1,0,1,0,0,1,0,0,1,0] 17,.code [1,1,1,1,1,1,0,1,0,0,1,0,0,1,1],.blk 3,.code [1,1,1,1,1,1,0,1,0,0,1,1],.lp [1,1,1,1,1,1,0,1,0,0],.blk 2,.code [1,1,1,1,1,1,1]],[1,4,5,122]),([.code [1,1,1,1,1,1,0,1,0,0,1,0,0,1,1],.blk 3,.code [1,1,1,1,1,1,0,1,0,0,1,1],.lp [1,1,1,1,1,1,0,1,0,0],.blk 2,.code [1,1,1,1,1,1,1]],[1,4,127])]
def Z60:List (List Nat × List Nat):=[([1,0,1,0,0],[10,15,20,25,31,37]),([1,1,1,1,1,1,0,1,0,0,1,0,0,1,0],[11,17,22])]
theorem b60:Try.prog.funcs[60]?=some Try.f60∧(Orc.tab Try.prog).lookup 60=none∧Try.f60.body=some (codeOf Try.f60):=⟨by kernel_rfl,by kernel_rfl,by kernel_rfl⟩
def A60_1 (x1:Option Addr) (x17:Bool) (M:Mem) (Q:Value→Mem→Prop):Prop:=LvP Try.prog Try.f60 [(1,.pointer x1),(17,.bool x17)] [.rg [1,0,1,0,0] 10,.code [1,0,1,0,1],.code [1,1]] M Q
def A60_2 (x1:Option Addr) (x3:Int) (M:Mem) (Q:Value→Mem→Prop):Prop:=LvP Try.prog Try.f60 [(1,.pointer x1),(3,.int .i64 x3)] [.code [1,1,0,1,0,0],.lp [1,1,0,1,0,0],.blk 0,.code [1,1,1]] M Q
def A60_3 (x1:Option Addr) (x22:Bool) (M:Mem) (Q:Value→Mem→Prop):Prop:=LvP Try.prog Try.f60 [(1,.pointer x1),(22,.bool x22)] [.rg [1,0,1,0,0] 15,.code [1,0,1,0,1],.code [1,1]] M Q
def A60_4 (x1:Option Addr) (x93:Bool) (M:Mem) (Q:Value→Mem→Prop):Prop:=LvP Try.prog Try.f60 [(1,.pointer x1),(93,.bool x93)] [.code [1,1,1,1,1,0,1],.code [1,1,1,1,1,1]] M Q
def A60_5 (x1:Option Addr) (x27:Bool) (M:Mem) (Q:Value→Mem→Prop):Prop:=LvP Try.prog Try.f60 [(1,.pointer x1),(27,.bool x27)] [.rg [1,0,1,0,0] 20,.code [1,0,1,0,1],.code [1,1]] M Q
def A60_6 (x1:Option Addr) (x4:Int) (M:Mem) (Q:Value→Mem→Prop):Prop:=LvP Try.prog Try.f60 [(1,.pointer x1),(4,.int .i64 x4)] [.code [1,1,1,1,1,1,0,1,0,0],.lp [1,1,1,1,1,1,0,1,0,0],.blk 2,.code [1,1,1,1,1,1,1]] M Q
def A60_7 (x1:Option Addr) (x32:Bool) (M:Mem) (Q:Value→Mem→Prop):Prop:=LvP Try.prog Try.f60 [(1,.pointer x1),(32,.bool x32)] [.rg [1,0,1,0,0] 25,.code [1,0,1,0,1],.code [1,1]] M Q
def A60_8 (x1:Option Addr) (x4:Int) (x5:Option Addr) (x116:Bool) (M:Mem) (Q:Value→Mem→Prop):Prop:=LvP Try.prog Try.f60 [(1,.pointer x1),(4,.int .i64 x4),(5,.pointer x5),(116,.bool x116)] [.rg [1,1,1,1,1,1,0,1,0,0,1,0,0,1,0] 11,.code [1,1,1,1,1,1,0,1,0,0,1,0,0,1,1],.blk 3,.code [1,1,1,1,1,1,0,1,0,0,1,1],.lp [1,1,1,1,1,1,0,1,0,0],.blk 2,.code [1,1,1,1,1,1,1]] M Q
def A60_9 (x1:Option Addr) (x38:Bool) (M:Mem) (Q:Value→Mem→Prop):Prop:=LvP Try.prog Try.f60 [(1,.pointer x1),(38,.bool x38)] [.rg [1,0,1,0,0] 31,.code [1,0,1,0,1],.code [1,1]] M Q
def A60_10 (x1:Option Addr) (x4:Int) (x5:Option Addr) (x122:Bool) (M:Mem) (Q:Value→Mem→Prop):Prop:=LvP Try.prog Try.f60 [(1,.pointer x1),(4,.int .i64 x4),(5,.pointer x5),(122,.bool x122)] [.rg [1,1,1,1,1,1,0,1,0,0,1,0,0,1,0] 17,.code [1,1,1,1,1,1,0,1,0,0,1,0,0,1,1],.blk 3,.code [1,1,1,1,1,1,0,1,0,0,1,1],.lp [1,1,1,1,1,1,0,1,0,0],.blk 2,.code [1,1,1,1,1,1,1]] M Q
def A60_11 (x1:Option Addr) (x4:Int) (x127:Bool) (M:Mem) (Q:Value→Mem→Prop):Prop:=LvP Try.prog Try.f60 [(1,.pointer x1),(4,.int .i64 x4),(127,.bool x127)] [.code [1,1,1,1,1,1,0,1,0,0,1,0,0,1,1],.blk 3,.code [1,1,1,1,1,1,0,1,0,0,1,1],.lp [1,1,1,1,1,1,0,1,0,0],.blk 2,.code [1,1,1,1,1,1,1]] M Q
theorem w60_0 {x0:Array Value} {M:Mem} {Q:Value→Mem→Prop} (H:
 ldP tyZlC0 (M.new (.cells x0 41)) (2*M.nb.size) 0 fun vs1'=>
 Cn Try.prog 54 #[.agg vs1'.toArray] (M.new (.cells x0 41)) fun v2' N2'=>
 tyS (asB v2') fun b3'=>
 cnd b3' (
 onS (N2'.intAt .i64 (2*M.nb.size) (0+18)) fun x4'=>
 onS (N2'.intAt .i64 (2*M.nb.size) (0+19)) fun x5'=>
 onS (N2'.intAt .i64 (2*M.nb.size) (0+20)) fun x6'=>
 onS (N2'.intAt .i64 (2*M.nb.size) (0+21)) fun x7'=>
 puS (binV Try.prog .eql 37 37 (.agg #[.int .i64 x4',.int .i64 x5',.int .i64 x6',.int .i64 x7']) (.agg #[.int .i64 0,.int .i64 0,.int .i64 0,.int .i64 0])) fun v8'=>
 tyS (asB v8') fun b9'=>
 cnd b9' (
 onS (N2'.intAt .i64 (2*M.nb.size) (0+22)) fun x10'=>
 A60_1 (some ⟨2*M.nb.size,0,none⟩) (x10' == 0) N2' Q) (
 A60_1 (some ⟨2*M.nb.size,0,none⟩) false N2' Q)) (
 A60_2 (some ⟨2*M.nb.size,0,none⟩) 0 N2' Q)):
 Cn Try.prog 60 #[.agg x0] M Q:=
 Cn.mk (cuts:=K60) (sp:=Z60) 900 b60 rfl rfl H fun G=>by kernel_rfl
theorem w60_1 {x1:Option Addr} {x17:Bool} {M:Mem} {Q:Value→Mem→Prop} (H:
 cnd x17 (
 adS x1 fun a11'=>
 onS (M.boolAt a11'.block (a11'.off+23)) fun b12'=>
 A60_3 x1 (!b12') M Q) (
 A60_3 x1 false M Q)):
 A60_1 x1 x17 M Q:=
 LvP.mk (cuts:=K60) (sp:=Z60) 900 H fun G=>by kernel_rfl
theorem w60_2 {x1:Option Addr} {x3:Int} {M:Mem} {Q:Value→Mem→Prop} (H:
 cnd (decide (x3<4)) (
 adS x1 fun a13'=>
 ixS (idxA (some ⟨a13'.block,a13'.off+18,none⟩) 4 1 x3) fun a14'=>
 onS (M.intAt .i64 a14'.block a14'.off) fun x15'=>
 Cn Try.prog 45 #[.int .i64 x15',.int .i64 0,.int .i64 63] M fun v16' N16'=>
 tyS (asB v16') fun b17'=>
 cnd (!b17') (
 Q (.bool false) N16') (
 A60_2 x1 (IntKind.i64.wrap (x3+1)) N16' Q)) (
 adS x1 fun a18'=>
 onS (M.intAt .i64 a18'.block (a18'.off+22)) fun x19'=>
 Cn Try.prog 45 #[.int .i64 x19',.int .i64 0,.int .i64 7] M fun v20' N20'=>
 tyS (asB v20') fun b21'=>
 cnd (!b21') (
 Q (.bool false) N20') (
 adS x1 fun a22'=>
 onS (N20'.boolAt a22'.block (a22'.off+23)) fun b23'=>
 cnd (!b23') (
 adS x1 fun a24'=>
 onS (N20'.intAt .i64 a24'.block (a24'.off+24)) fun x25'=>
 cnd (x25' == 0) (
 adS x1 fun a26'=>
 onS (N20'.intAt .i64 a26'.block (a26'.off+25)) fun x27'=>
 cnd (x27' == 0) (
 adS x1 fun a28'=>
 onS (N20'.slAt a28'.block (a28'.off+26)) fun s29'=>
 Q (.bool (((s29'.2.1:Int)) == 0)) N20') (
 Q (.bool false) N20')) (
 Q (.bool false) N20')) (
 adS x1 fun a30'=>
 onS (N20'.intAt .i64 a30'.block (a30'.off+24)) fun x31'=>
 Cn Try.prog 45 #[.int .i64 x31',.int .i64 3,.int .i64 6] N20' fun v32' N32'=>
 tyS (asB v32') fun b33'=>
 cnd (!b33') (
 A60_4 x1 true N32' Q) (
 adS x1 fun a34'=>
 onS (N32'.intAt .i64 a34'.block (a34'.off+25)) fun x35'=>
 Cn Try.prog 45 #[.int .i64 x35',.int .i64 0,.int .i64 3] N32' fun v36' N36'=>
 tyS (asB v36') fun b37'=>
 cnd (!b37') (
 A60_4 x1 true N36' Q) (
 adS x1 fun a38'=>
 onS (N36'.slAt a38'.block (a38'.off+26)) fun s39'=>
 adS x1 fun a40'=>
 onS (N36'.intAt .i64 a40'.block (a40'.off+25)) fun x41'=>
 puS (binV Try.prog .shl 3 3 (.int .i64 1) (.int .i64 x41')) fun v42'=>
 tyS (asI .i64 v42') fun x43'=>
 A60_4 x1 (((s39'.2.1:Int)) != x43') N36' Q)))))):
 A60_2 x1 x3 M Q:=
 LvP.mk (cuts:=K60) (sp:=Z60) 900 H fun G=>by kernel_rfl
theorem w60_3 {x1:Option Addr} {x22:Bool} {M:Mem} {Q:Value→Mem→Prop} (H:
 cnd x22 (
 adS x1 fun a44'=>
 onS (M.intAt .i64 a44'.block (a44'.off+24)) fun x45'=>
 A60_5 x1 (x45' == 0) M Q) (
 A60_5 x1 false M Q)):
 A60_3 x1 x22 M Q:=
 LvP.mk (cuts:=K60) (sp:=Z60) 900 H fun G=>by kernel_rfl
theorem w60_4 {x1:Option Addr} {x93:Bool} {M:Mem} {Q:Value→Mem→Prop} (H:
 cnd x93 (
 Q (.bool false) M) (
 A60_6 x1 0 M Q)):
 A60_4 x1 x93 M Q:=
 LvP.mk (cuts:=K60) (sp:=Z60) 900 H fun G=>by kernel_rfl
theorem w60_5 {x1:Option Addr} {x27:Bool} {M:Mem} {Q:Value→Mem→Prop} (H:
 cnd x27 (
 adS x1 fun a46'=>
 onS (M.intAt .i64 a46'.block (a46'.off+25)) fun x47'=>
 A60_7 x1 (x47' == 0) M Q) (
 A60_7 x1 false M Q)):
 A60_5 x1 x27 M Q:=
 LvP.mk (cuts:=K60) (sp:=Z60) 900 H fun G=>by kernel_rfl
theorem w60_6 {x1:Option Addr} {x4:Int} {M:Mem} {Q:Value→Mem→Prop} (H:
 adS x1 fun a48'=>
 onS (M.slAt a48'.block (a48'.off+26)) fun s49'=>
 cnd (decide (x4<((s49'.2.1:Int)))) (
 adS x1 fun a50'=>
 onS (M.slAt a50'.block (a50'.off+26)) fun s51'=>
 ixS (idxA s51'.1 (s51'.2.1) 4 x4) fun a52'=>
 onS (M.intAt .i64 a52'.block a52'.off) fun x53'=>
 onS (M.intAt .i64 a52'.block (a52'.off+1)) fun x54'=>
 onS (M.intAt .i64 a52'.block (a52'.off+2)) fun x55'=>
 onS (M.intAt .i64 a52'.block (a52'.off+3)) fun x56'=>
 stP (some 4) #[.int .i64 x53',.int .i64 x54',.int .i64 x55',.int .i64 x56'] (M.new (.cells #[.int .i64 0,.int .i64 0,.int .i64 0,.int .i64 0] 96)) (2*M.nb.size) 0 fun M57'=>
 onS (M57'.intAt .i64 (2*M.nb.size) 0) fun x58'=>
 Cn Try.prog 45 #[.int .i64 x58',.int .i64 0,.int .i64 15] M57' fun v59' N59'=>
 tyS (asB v59') fun b60'=>
 cnd (!b60') (
 A60_8 x1 x4 (some ⟨2*M.nb.size,0,none⟩) true N59' Q) (
 onS (N59'.intAt .i64 (2*M.nb.size) (0+2)) fun x61'=>
 Cn Try.prog 45 #[.int .i64 x61',.int .i64 0,.int .i64 15] N59' fun v62' N62'=>
 tyS (asB v62') fun b63'=>
 A60_8 x1 x4 (some ⟨2*M.nb.size,0,none⟩) (!b63') N62' Q)) (
 Q (.bool true) M)):
 A60_6 x1 x4 M Q:=
 LvP.mk (cuts:=K60) (sp:=Z60) 900 H fun G=>by kernel_rfl
theorem w60_7 {x1:Option Addr} {x32:Bool} {M:Mem} {Q:Value→Mem→Prop} (H:
 cnd x32 (
 adS x1 fun a64'=>
 onS (M.slAt a64'.block (a64'.off+26)) fun s65'=>
 A60_9 x1 (((s65'.2.1:Int)) == 0) M Q) (
 A60_9 x1 false M Q)):
 A60_7 x1 x32 M Q:=
 LvP.mk (cuts:=K60) (sp:=Z60) 900 H fun G=>by kernel_rfl
theorem w60_8 {x1:Option Addr} {x4:Int} {x5:Option Addr} {x116:Bool} {M:Mem} {Q:Value→Mem→Prop} (H:
 cnd x116 (
 A60_10 x1 x4 x5 true M Q) (
 adS x5 fun a66'=>
 onS (M.intAt .i64 a66'.block (a66'.off+1)) fun x67'=>
 Cn Try.prog 45 #[.int .i64 x67',.int .i64 0,.int .i64 3] M fun v68' N68'=>
 tyS (asB v68') fun b69'=>
 A60_10 x1 x4 x5 (!b69') N68' Q)):
 A60_8 x1 x4 x5 x116 M Q:=
 LvP.mk (cuts:=K60) (sp:=Z60) 900 H fun G=>by kernel_rfl
theorem w60_9 {x1:Option Addr} {x38:Bool} {M:Mem} {Q:Value→Mem→Prop} (H:
 cnd x38 (
 adS x1 fun a70'=>
 onS (M.boolAt a70'.block (a70'.off+27)) fun b71'=>
 onS (M.boolAt a70'.block (a70'.off+28)) fun b72'=>
 onS (M.boolAt a70'.block (a70'.off+29)) fun b73'=>
 puS (binV Try.prog .eql 39 39 (.agg #[.bool b71',.bool b72',.bool b73']) (.agg #[.bool false,.bool false,.bool false])) fun v74'=>
 tyS (asB v74') fun b75'=>
 Q (.bool b75') M) (
 Q (.bool false) M)):
 A60_9 x1 x38 M Q:=
 LvP.mk (cuts:=K60) (sp:=Z60) 900 H fun G=>by kernel_rfl
theorem w60_10 {x1:Option Addr} {x4:Int} {x5:Option Addr} {x122:Bool} {M:Mem} {Q:Value→Mem→Prop} (H:
 cnd x122 (
 A60_11 x1 x4 true M Q) (
 adS x5 fun a76'=>
 onS (M.intAt .i64 a76'.block (a76'.off+3)) fun x77'=>
 Cn Try.prog 45 #[.int .i64 x77',.int .i64 0,.int .i64 3] M fun v78' N78'=>
 tyS (asB v78') fun b79'=>
 A60_11 x1 x4 (!b79') N78' Q)):
 A60_10 x1 x4 x5 x122 M Q:=
 LvP.mk (cuts:=K60) (sp:=Z60) 900 H fun G=>by kernel_rfl
theorem w60_11 {x1:Option Addr} {x4:Int} {x127:Bool} {M:Mem} {Q:Value→Mem→Prop} (H:
 cnd x127 (
 Q (.bool false) M) (
 A60_6 x1 (IntKind.i64.wrap (x4+1)) M Q)):
 A60_11 x1 x4 x127 M Q:=
 LvP.mk (cuts:=K60) (sp:=Z60) 900 H fun G=>by kernel_rfl
end Go.Zt
