/- Layer 20: the document's checks,first part: squares,Lossless,Same. Printed by genP.py. -/
import Derived.Test.YtgepgbblmodagaaZlM
set_option linter.unusedSimpArgs false
set_option linter.unusedVariables false
set_option maxRecDepth 100000
namespace Go.Zt
open Go Go.Sim Go.Proofs Go.RowKit
theorem c59 {s:Int} {M:Mem} (hs:16≤s∧s≤256):Cn Try.prog 59 #[.int .i64 s] M fun v N=>v=.int .i64 ((s+63) / 64)∧N=M:=
  w59_0 ⟨by rw [i64w (x:=s+63) (by omega),Int.tdiv_eq_ediv_of_nonneg (by omega),i64w (by omega)],rfl⟩
theorem c54 {h:Hd} {M:Mem}:Cn Try.prog 54 #[.agg h.cs] M (BK M h.less):=by
  have a:=Mem.new_at M (.cells h.cs 41)
  have K:Keep M (M.new (.cells h.cs 41)):=.new _ _
  refine w54_0 ?_
  generalize M.new (.cells h.cs 41)=N at a K ⊢
  refine on (int_of a rfl) (ce (fun e=>on (int_of a rfl) (on (int_of a rfl) (on (int_of a rfl) (on (int_of a rfl) (on (int_of a rfl) (pu (eq36 ..).1 (ty rfl ⟨?_,K⟩))))))) fun e=>⟨bF fun hh=>e hh.1,K⟩)
  unfold Hd.less; congr 1; rw [decide_eq_decide]; exact ⟨fun hh=>⟨e,hh⟩,fun hh=>hh.2⟩
theorem nx1 {x y:Int} {s r b:Bool} (hr:r=(!b && ((x == y) && s))) (hb:b=false):r=(!(x != y) && s):=by subst hb; rw [hr]; simp [bne]
theorem nx2 {x s r b:Bool} (hr:r=(!b && (x && s))) (hb:b=false):r=(!(!x) && s):=by subst hb; rw [hr]; simp
theorem nx3 {s r b s':Bool} (hr:r=(!b && s)) (hb:b=true):r=(!true && s'):=by subst hb; rw [hr]; rfl
theorem nx4 {s r b:Bool} (hr:r=(!b && s)) (hb:b=true):r=false:=by subst hb; rw [hr]; rfl
section
variable (h g:Hd) (X Y:List Sg)
def sm17:Bool:=decide (X=Y)
def sm16:Bool:=((h.n:Int) == (g.n:Int)) && sm17 X Y
def sm15:Bool:=decide (h.x0=g.x0∧h.x1=g.x1∧h.x2=g.x2) && sm16 h g X Y
def sm14:Bool:=(h.cb == g.cb) && sm15 h g X Y
def sm13:Bool:=(h.da == g.da) && sm14 h g X Y
def sm12:Bool:=(h.cd == g.cd) && sm13 h g X Y
def sm11:Bool:=decide (h.l0=g.l0∧h.l1=g.l1∧h.l2=g.l2∧h.l3=g.l3) && ((h.sp == g.sp) && sm12 h g X Y)
def sm10:Bool:=(h.na == g.na) && sm11 h g X Y
def sm9:Bool:=(h.ro == g.ro) && sm10 h g X Y
def sm8:Bool:=(h.co == g.co) && sm9 h g X Y
def sm7:Bool:=decide (h.d0=g.d0∧h.d1=g.d1∧h.d2=g.d2∧h.d3=g.d3∧h.d4=g.d4) && sm8 h g X Y
def sm6:Bool:=(h.ba == g.ba) && sm7 h g X Y
def sm5:Bool:=(h.pr == g.pr) && sm6 h g X Y
def sm4:Bool:=decide (h.r0=g.r0∧h.r1=g.r1∧h.r2=g.r2) && sm5 h g X Y
def sm3:Bool:=(h.rf == g.rf) && sm4 h g X Y
def sm2:Bool:=(h.ke == g.ke) && sm3 h g X Y
def sm1:Bool:=(h.sh == g.sh) && sm2 h g X Y
def Hd.same (h:Hd) (X:List Sg) (g:Hd) (Y:List Sg):Bool:=(h.ex == g.ex) && ((h.sl == g.sl) && sm1 h g X Y)
end
section
variable {h g:Hd} {X Y:List Sg} {M0 M:Mem} {j i:Nat}
theorem e30_18 (K:Keep M0 M) (a:M.nb[j]?=some (.cells h.cs 41)) (a':M.nb[i]?=some (.cells g.cs 41)) (hn:h.n=X.length) (hm:g.n=Y.length) (hb:h.n≤1048576) (hR:Row M h.A (Sgs X)) (hR':Row M g.A (Sgs Y)) (hl:X.length=Y.length) {r:Bool}:
    ∀ (k q:Nat),q+k=h.n→(r=decide (X.drop q=Y.drop q))→A30_18 (some ⟨2*j,0,none⟩) (some ⟨2*i,0,none⟩) (q:Int) M (BK M0 r)
  | 0,q,hq,hr=>w30_18 (ad rfl (on (sl_of a rfl) (cd (fun h'=>by have:(q:Int)<(h.n:Int):=h'; omega) fun _=>⟨by rw [hr,List.drop_of_length_le (by omega),List.drop_of_length_le (by omega)]; rfl,K⟩)))
  | k+1,q,hq,hr=>by
    have h1:q<X.length:=by omega
    have h2:q<Y.length:=by omega
    obtain ⟨p,g0,g1,g2,g3,g4⟩:=Sgs.elt hR (n:=h.n) (i:=q) (z:=(q:Int)) rfl (by omega) h1
    obtain ⟨p',g0',g1',g2',g3',g4'⟩:=Sgs.elt hR' (n:=g.n) (i:=q) (z:=(q:Int)) rfl (by omega) h2
    have ee:X[q]=Y[q]↔(X[q].a=Y[q].a∧X[q].b=Y[q].b∧X[q].c=Y[q].c∧X[q].d=Y[q].d):=by
      generalize X[q]=x; generalize Y[q]=y
      cases x; cases y; simp
    rw [List.drop_eq_getElem_cons h1,List.drop_eq_getElem_cons h2] at hr
    refine w30_18 (ad rfl (on (sl_of a rfl) (cT (decide_eq_true (show (q:Int)<(h.n:Int) by omega)) (ad rfl (on (sl_of a rfl) (ix g0 (on g1 (on g2 (on g3 (on g4 (ad rfl (on (sl_of a' rfl) (ix g0' (on g1' (on g2' (on g3' (on g4' (pu (eq96 ..).2 (ty rfl (cnn (fun hd=>⟨?_,K⟩) fun hd=>?_))))))))))))))))))))
    · rw [hr]; exact bF fun e=>dF hd (ee.1 (List.cons.inj e).1)
    · rw [i64w (by omega)]
      refine e30_18 K a a' hn hm hb hR hR' hl k (q+1) (by omega) ?_
      rw [hr,decide_eq_decide]
      exact ⟨fun e=>(List.cons.inj e).2,fun e=>by rw [ee.2 (dT hd),e]⟩
theorem e30_17 (K:Keep M0 M) (a:M.nb[j]?=some (.cells h.cs 41)) (a':M.nb[i]?=some (.cells g.cs 41)) (hn:h.n=X.length) (hm:g.n=Y.length) (hb:h.n≤1048576) (hR:Row M h.A (Sgs X)) (hR':Row M g.A (Sgs Y)) (hl:X.length=Y.length) {b r:Bool} (hr:r=(!b && sm17 X Y)):A30_17 (some ⟨2*j,0,none⟩) (some ⟨2*i,0,none⟩) b M (BK M0 r):=by
  exact w30_17 (cn (fun hb'=>⟨by rw [nx4 hr hb'],K⟩) fun hb'=>e30_18 K a a' hn hm hb hR hR' hl h.n 0 (by omega) (by subst hb'; rw [hr]; rfl))
theorem e30_16 (K:Keep M0 M) (a:M.nb[j]?=some (.cells h.cs 41)) (a':M.nb[i]?=some (.cells g.cs 41)) (hn:h.n=X.length) (hm:g.n=Y.length) (hb:h.n≤1048576) (hR:Row M h.A (Sgs X)) (hR':Row M g.A (Sgs Y)) {b r:Bool} (hr:r=(!b && sm16 h g X Y)):A30_16 (some ⟨2*j,0,none⟩) (some ⟨2*i,0,none⟩) b M (BK M0 r):=by
  refine w30_16 (cn (fun hb'=>w30_17 (cT rfl ⟨by rw [nx4 hr hb'],K⟩)) fun hb'=>ad rfl (on (sl_of a rfl) (ad rfl (on (sl_of a' rfl) ?_))))
  have q:r=(!((h.n:Int) != (g.n:Int)) && sm17 X Y):=nx1 hr hb'
  by_cases hl:X.length=Y.length
  · exact e30_17 K a a' hn hm hb hR hR' hl q
  · have e:((h.n:Int) != (g.n:Int))=true:=by rw [hn,hm]; simp; omega
    exact w30_17 (cT e ⟨by rw [nx4 q e],K⟩)
theorem e30_15 (K:Keep M0 M) (a:M.nb[j]?=some (.cells h.cs 41)) (a':M.nb[i]?=some (.cells g.cs 41)) (hn:h.n=X.length) (hm:g.n=Y.length) (hb:h.n≤1048576) (hR:Row M h.A (Sgs X)) (hR':Row M g.A (Sgs Y)) {b r:Bool} (hr:r=(!b && sm15 h g X Y)):A30_15 (some ⟨2*j,0,none⟩) (some ⟨2*i,0,none⟩) b M (BK M0 r):=by
  exact w30_15 (cn (fun hb'=>e30_16 K a a' hn hm hb hR hR' (nx3 hr hb')) fun hb'=>ad rfl (on (bool_of a rfl) (on (bool_of a rfl) (on (bool_of a rfl) (ad rfl (on (bool_of a' rfl) (on (bool_of a' rfl) (on (bool_of a' rfl) (pu (eq39 ..).2 (ty rfl (e30_16 K a a' hn hm hb hR hR' (nx2 hr hb'))))))))))))
theorem e30_14 (K:Keep M0 M) (a:M.nb[j]?=some (.cells h.cs 41)) (a':M.nb[i]?=some (.cells g.cs 41)) (hn:h.n=X.length) (hm:g.n=Y.length) (hb:h.n≤1048576) (hR:Row M h.A (Sgs X)) (hR':Row M g.A (Sgs Y)) {b r:Bool} (hr:r=(!b && sm14 h g X Y)):A30_14 (some ⟨2*j,0,none⟩) (some ⟨2*i,0,none⟩) b M (BK M0 r):=by
  exact w30_14 (cn (fun hb'=>e30_15 K a a' hn hm hb hR hR' (nx3 hr hb')) fun hb'=>ad rfl (on (int_of a rfl) (ad rfl (on (int_of a' rfl) (e30_15 K a a' hn hm hb hR hR' (nx1 hr hb'))))))
theorem e30_13 (K:Keep M0 M) (a:M.nb[j]?=some (.cells h.cs 41)) (a':M.nb[i]?=some (.cells g.cs 41)) (hn:h.n=X.length) (hm:g.n=Y.length) (hb:h.n≤1048576) (hR:Row M h.A (Sgs X)) (hR':Row M g.A (Sgs Y)) {b r:Bool} (hr:r=(!b && sm13 h g X Y)):A30_13 (some ⟨2*j,0,none⟩) (some ⟨2*i,0,none⟩) b M (BK M0 r):=by
  exact w30_13 (cn (fun hb'=>e30_14 K a a' hn hm hb hR hR' (nx3 hr hb')) fun hb'=>ad rfl (on (int_of a rfl) (ad rfl (on (int_of a' rfl) (e30_14 K a a' hn hm hb hR hR' (nx1 hr hb'))))))
theorem e30_12 (K:Keep M0 M) (a:M.nb[j]?=some (.cells h.cs 41)) (a':M.nb[i]?=some (.cells g.cs 41)) (hn:h.n=X.length) (hm:g.n=Y.length) (hb:h.n≤1048576) (hR:Row M h.A (Sgs X)) (hR':Row M g.A (Sgs Y)) {b r:Bool} (hr:r=(!b && sm12 h g X Y)):A30_12 (some ⟨2*j,0,none⟩) (some ⟨2*i,0,none⟩) b M (BK M0 r):=by
  exact w30_12 (cn (fun hb'=>e30_13 K a a' hn hm hb hR hR' (nx3 hr hb')) fun hb'=>ad rfl (on (bool_of a rfl) (ad rfl (on (bool_of a' rfl) (e30_13 K a a' hn hm hb hR hR' (nx2 hr hb'))))))
theorem e30_11 (K:Keep M0 M) (a:M.nb[j]?=some (.cells h.cs 41)) (a':M.nb[i]?=some (.cells g.cs 41)) (hn:h.n=X.length) (hm:g.n=Y.length) (hb:h.n≤1048576) (hR:Row M h.A (Sgs X)) (hR':Row M g.A (Sgs Y)) {b r:Bool} (hr:r=(!b && sm11 h g X Y)):A30_11 (some ⟨2*j,0,none⟩) (some ⟨2*i,0,none⟩) b M (BK M0 r):=by
  refine w30_11 (cn (fun hb'=>⟨by rw [nx4 hr hb'],K⟩) fun hb'=>ad rfl (on (int_of a rfl) (on (int_of a rfl) (on (int_of a rfl) (on (int_of a rfl) (ad rfl (on (int_of a' rfl) (on (int_of a' rfl) (on (int_of a' rfl) (on (int_of a' rfl) (pu (eq37 ..).2 (ty rfl ?_))))))))))))
  have q:=nx2 hr hb'
  exact cn (fun hc=>e30_12 K a a' hn hm hb hR hR' (nx3 q hc)) fun hc=>ad rfl (on (int_of a rfl) (ad rfl (on (int_of a' rfl) (e30_12 K a a' hn hm hb hR hR' (nx1 q hc)))))
theorem e30_10 (K:Keep M0 M) (a:M.nb[j]?=some (.cells h.cs 41)) (a':M.nb[i]?=some (.cells g.cs 41)) (hn:h.n=X.length) (hm:g.n=Y.length) (hb:h.n≤1048576) (hR:Row M h.A (Sgs X)) (hR':Row M g.A (Sgs Y)) {b r:Bool} (hr:r=(!b && sm10 h g X Y)):A30_10 (some ⟨2*j,0,none⟩) (some ⟨2*i,0,none⟩) b M (BK M0 r):=by
  exact w30_10 (cn (fun hb'=>e30_11 K a a' hn hm hb hR hR' (nx3 hr hb')) fun hb'=>ad rfl (on (bool_of a rfl) (ad rfl (on (bool_of a' rfl) (e30_11 K a a' hn hm hb hR hR' (nx2 hr hb'))))))
theorem e30_9 (K:Keep M0 M) (a:M.nb[j]?=some (.cells h.cs 41)) (a':M.nb[i]?=some (.cells g.cs 41)) (hn:h.n=X.length) (hm:g.n=Y.length) (hb:h.n≤1048576) (hR:Row M h.A (Sgs X)) (hR':Row M g.A (Sgs Y)) {b r:Bool} (hr:r=(!b && sm9 h g X Y)):A30_9 (some ⟨2*j,0,none⟩) (some ⟨2*i,0,none⟩) b M (BK M0 r):=by
  exact w30_9 (cn (fun hb'=>e30_10 K a a' hn hm hb hR hR' (nx3 hr hb')) fun hb'=>ad rfl (on (int_of a rfl) (ad rfl (on (int_of a' rfl) (e30_10 K a a' hn hm hb hR hR' (nx1 hr hb'))))))
theorem e30_8 (K:Keep M0 M) (a:M.nb[j]?=some (.cells h.cs 41)) (a':M.nb[i]?=some (.cells g.cs 41)) (hn:h.n=X.length) (hm:g.n=Y.length) (hb:h.n≤1048576) (hR:Row M h.A (Sgs X)) (hR':Row M g.A (Sgs Y)) {b r:Bool} (hr:r=(!b && sm8 h g X Y)):A30_8 (some ⟨2*j,0,none⟩) (some ⟨2*i,0,none⟩) b M (BK M0 r):=by
  exact w30_8 (cn (fun hb'=>e30_9 K a a' hn hm hb hR hR' (nx3 hr hb')) fun hb'=>ad rfl (on (int_of a rfl) (ad rfl (on (int_of a' rfl) (e30_9 K a a' hn hm hb hR hR' (nx1 hr hb'))))))
theorem e30_7 (K:Keep M0 M) (a:M.nb[j]?=some (.cells h.cs 41)) (a':M.nb[i]?=some (.cells g.cs 41)) (hn:h.n=X.length) (hm:g.n=Y.length) (hb:h.n≤1048576) (hR:Row M h.A (Sgs X)) (hR':Row M g.A (Sgs Y)) {b r:Bool} (hr:r=(!b && sm7 h g X Y)):A30_7 (some ⟨2*j,0,none⟩) (some ⟨2*i,0,none⟩) b M (BK M0 r):=by
  exact w30_7 (cn (fun hb'=>e30_8 K a a' hn hm hb hR hR' (nx3 hr hb')) fun hb'=>ad rfl (on (int_of a rfl) (on (int_of a rfl) (on (int_of a rfl) (on (int_of a rfl) (on (int_of a rfl) (ad rfl (on (int_of a' rfl) (on (int_of a' rfl) (on (int_of a' rfl) (on (int_of a' rfl) (on (int_of a' rfl) (pu (eq36 ..).2 (ty rfl (e30_8 K a a' hn hm hb hR hR' (nx2 hr hb'))))))))))))))))
theorem e30_6 (K:Keep M0 M) (a:M.nb[j]?=some (.cells h.cs 41)) (a':M.nb[i]?=some (.cells g.cs 41)) (hn:h.n=X.length) (hm:g.n=Y.length) (hb:h.n≤1048576) (hR:Row M h.A (Sgs X)) (hR':Row M g.A (Sgs Y)) {b r:Bool} (hr:r=(!b && sm6 h g X Y)):A30_6 (some ⟨2*j,0,none⟩) (some ⟨2*i,0,none⟩) b M (BK M0 r):=by
  exact w30_6 (cn (fun hb'=>e30_7 K a a' hn hm hb hR hR' (nx3 hr hb')) fun hb'=>ad rfl (on (int_of a rfl) (ad rfl (on (int_of a' rfl) (e30_7 K a a' hn hm hb hR hR' (nx1 hr hb'))))))
theorem e30_5 (K:Keep M0 M) (a:M.nb[j]?=some (.cells h.cs 41)) (a':M.nb[i]?=some (.cells g.cs 41)) (hn:h.n=X.length) (hm:g.n=Y.length) (hb:h.n≤1048576) (hR:Row M h.A (Sgs X)) (hR':Row M g.A (Sgs Y)) {b r:Bool} (hr:r=(!b && sm5 h g X Y)):A30_5 (some ⟨2*j,0,none⟩) (some ⟨2*i,0,none⟩) b M (BK M0 r):=by
  exact w30_5 (cn (fun hb'=>e30_6 K a a' hn hm hb hR hR' (nx3 hr hb')) fun hb'=>ad rfl (on (int_of a rfl) (ad rfl (on (int_of a' rfl) (e30_6 K a a' hn hm hb hR hR' (nx1 hr hb'))))))
theorem e30_4 (K:Keep M0 M) (a:M.nb[j]?=some (.cells h.cs 41)) (a':M.nb[i]?=some (.cells g.cs 41)) (hn:h.n=X.length) (hm:g.n=Y.length) (hb:h.n≤1048576) (hR:Row M h.A (Sgs X)) (hR':Row M g.A (Sgs Y)) {b r:Bool} (hr:r=(!b && sm4 h g X Y)):A30_4 (some ⟨2*j,0,none⟩) (some ⟨2*i,0,none⟩) b M (BK M0 r):=by
  exact w30_4 (cn (fun hb'=>e30_5 K a a' hn hm hb hR hR' (nx3 hr hb')) fun hb'=>ad rfl (on (int_of a rfl) (on (int_of a rfl) (on (int_of a rfl) (ad rfl (on (int_of a' rfl) (on (int_of a' rfl) (on (int_of a' rfl) (pu (eq35 ..).2 (ty rfl (e30_5 K a a' hn hm hb hR hR' (nx2 hr hb'))))))))))))
theorem e30_3 (K:Keep M0 M) (a:M.nb[j]?=some (.cells h.cs 41)) (a':M.nb[i]?=some (.cells g.cs 41)) (hn:h.n=X.length) (hm:g.n=Y.length) (hb:h.n≤1048576) (hR:Row M h.A (Sgs X)) (hR':Row M g.A (Sgs Y)) {b r:Bool} (hr:r=(!b && sm3 h g X Y)):A30_3 (some ⟨2*j,0,none⟩) (some ⟨2*i,0,none⟩) b M (BK M0 r):=by
  exact w30_3 (cn (fun hb'=>e30_4 K a a' hn hm hb hR hR' (nx3 hr hb')) fun hb'=>ad rfl (on (int_of a rfl) (ad rfl (on (int_of a' rfl) (e30_4 K a a' hn hm hb hR hR' (nx1 hr hb'))))))
theorem e30_2 (K:Keep M0 M) (a:M.nb[j]?=some (.cells h.cs 41)) (a':M.nb[i]?=some (.cells g.cs 41)) (hn:h.n=X.length) (hm:g.n=Y.length) (hb:h.n≤1048576) (hR:Row M h.A (Sgs X)) (hR':Row M g.A (Sgs Y)) {b r:Bool} (hr:r=(!b && sm2 h g X Y)):A30_2 (some ⟨2*j,0,none⟩) (some ⟨2*i,0,none⟩) b M (BK M0 r):=by
  exact w30_2 (cn (fun hb'=>e30_3 K a a' hn hm hb hR hR' (nx3 hr hb')) fun hb'=>ad rfl (on (bool_of a rfl) (ad rfl (on (bool_of a' rfl) (e30_3 K a a' hn hm hb hR hR' (nx2 hr hb'))))))
theorem e30_1 (K:Keep M0 M) (a:M.nb[j]?=some (.cells h.cs 41)) (a':M.nb[i]?=some (.cells g.cs 41)) (hn:h.n=X.length) (hm:g.n=Y.length) (hb:h.n≤1048576) (hR:Row M h.A (Sgs X)) (hR':Row M g.A (Sgs Y)) {b r:Bool} (hr:r=(!b && sm1 h g X Y)):A30_1 (some ⟨2*j,0,none⟩) (some ⟨2*i,0,none⟩) b M (BK M0 r):=by
  exact w30_1 (cn (fun hb'=>e30_2 K a a' hn hm hb hR hR' (nx3 hr hb')) fun hb'=>ad rfl (on (bool_of a rfl) (ad rfl (on (bool_of a' rfl) (e30_2 K a a' hn hm hb hR hR' (nx2 hr hb'))))))
theorem c30 (hf:M.floor≤M.nb.size) (hn:h.n=X.length) (hm:g.n=Y.length) (hb:h.n≤1048576) (hR:Row M h.A (Sgs X)) (hR':Row M g.A (Sgs Y)):Cn Try.prog 30 #[.agg h.cs,.agg g.cs] M (BK M (h.same X g Y)):=by
  have a:=Mem.new_at M (.cells h.cs 41)
  have K:Keep M (M.new (.cells h.cs 41)):=.new _ _
  refine w30_0 ?_
  generalize M.new (.cells h.cs 41)=N at a K ⊢
  have a':=Mem.new_at N (.cells g.cs 41)
  have K2:Keep N (N.new (.cells g.cs 41)):=.new _ _
  have a2:=at_keep a K2
  generalize N.new (.cells g.cs 41)=N2 at a' K2 a2 ⊢
  have KK:=K.trans K2
  have hr:h.same X g Y=(!false && ((h.ex == g.ex) && ((h.sl == g.sl) && sm1 h g X Y))):=rfl
  have q:=nx2 hr rfl
  refine on (bool_of a2 rfl) (on (bool_of a' rfl) (cn (fun hc=>e30_1 KK a2 a' hn hm hb (hR.keep KK) (hR'.keep KK) (nx3 q hc)) fun hc=>on (int_of a2 rfl) (on (int_of a' rfl) (e30_1 KK a2 a' hn hm hb (hR.keep KK) (hR'.keep KK) (nx1 q hc)))))
end
end Go.Zt

/- Layer 20: the document's checks,second part: filters,Check. -/
set_option linter.unusedSimpArgs false
set_option linter.unusedVariables false
set_option maxRecDepth 100000
namespace Go.Zt
open Go Go.Sim Go.Proofs Go.RowKit
section
variable {h:Hd} {X:List Sg} {M0 M:Mem} {j i:Nat}
theorem e60_6 (hf:M0.floor≤M0.nb.size) (hn:h.n=X.length) (hb:h.n≤1048576) {r:Bool}:∀ (k q:Nat) {M:Mem},q+k=h.n→Keep M0 M→M.nb[j]?=some (.cells h.cs 41)→Row M h.A (Sgs X)→(r=(X.drop q).all Sg.may)→A60_6 (some ⟨2*j,0,none⟩) (q:Int) M (BK M0 r)
  | 0,q,M,hq,K,a,hR,hr=>w60_6 (ad rfl (on (sl_of a rfl) (cd (fun h'=>by have:(q:Int)<(h.n:Int):=h'; omega) fun _=>⟨by rw [hr,List.drop_of_length_le (by omega)]; rfl,K⟩)))
  | k+1,q,M,hq,K,a,hR,hr=>by
    have hlt:q<X.length:=by omega
    obtain ⟨p,g0,g1,g2,g3,g4⟩:=Sgs.elt hR (n:=h.n) (i:=q) (z:=(q:Int)) rfl (by omega) hlt
    rw [List.drop_eq_getElem_cons hlt,List.all_cons] at hr
    refine w60_6 (ad rfl (on (sl_of a rfl) (cT (decide_eq_true (show (q:Int)<(h.n:Int) by omega)) (ad rfl (on (sl_of a rfl) (ix g0 (on g1 (on g2 (on g3 (on g4 (stN (fb hf K) rfl rfl rfl fun M' K' _ a'=>?_)))))))))))
    have K2:=K.trans K'
    have a2:=at_keep a K'
    have hR2:=hR.keep K'
    generalize X[q]=x at *
    have e11:∀ b,(b=true→x.may=false)→(b=false→x.may=true)→A60_11 (some ⟨2*j,0,none⟩) (q:Int) b M' (BK M0 r):=fun b h1 h0=>
      w60_11 (cn (fun hb'=>⟨by rw [hr,h1 hb']; rfl,K2⟩) fun hb'=>by
        rw [i64w (by omega)]
        exact e60_6 hf hn hb k (q+1) (by omega) K2 a2 hR2 (by rw [hr,h0 hb']; rfl))
    have mF:(¬ ((0≤x.a∧x.a≤15)∧(0≤x.c∧x.c≤15)∧(0≤x.b∧x.b≤3)∧(0≤x.d∧x.d≤3)))→x.may=false:=fun g=>decide_eq_false g
    have mT:((0≤x.a∧x.a≤15)∧(0≤x.c∧x.c≤15)∧(0≤x.b∧x.b≤3)∧(0≤x.d∧x.d≤3))→x.may=true:=fun g=>decide_eq_true g
    have e10:∀ b,(b=true→x.may=false)→(b=false→(0≤x.a∧x.a≤15)∧(0≤x.c∧x.c≤15)∧(0≤x.b∧x.b≤3))→A60_10 (some ⟨2*j,0,none⟩) (q:Int) (some ⟨2*M.nb.size,0,none⟩) b M' (BK M0 r):=fun b h1 h0=>
      w60_10 (cn (fun hb'=>e11 _ (fun _=>h1 hb') fun h=>(by cases h)) fun hb'=>ad rfl (on (int_of a' rfl) (Cn.eq c45 (ty rfl (e11 _ (fun hx=>mF fun g=>dF (nb hx) g.2.2.2) fun hx=>mT ⟨(h0 hb').1,(h0 hb').2.1,(h0 hb').2.2,dT (nb' hx)⟩)))))
    have e8:∀ b,(b=true→x.may=false)→(b=false→(0≤x.a∧x.a≤15)∧(0≤x.c∧x.c≤15))→A60_8 (some ⟨2*j,0,none⟩) (q:Int) (some ⟨2*M.nb.size,0,none⟩) b M' (BK M0 r):=fun b h1 h0=>
      w60_8 (cn (fun hb'=>e10 _ (fun _=>h1 hb') fun h=>(by cases h)) fun hb'=>ad rfl (on (int_of a' rfl) (Cn.eq c45 (ty rfl (e10 _ (fun hx=>mF fun g=>dF (nb hx) g.2.2.1) fun hx=>⟨(h0 hb').1,(h0 hb').2,dT (nb' hx)⟩)))))
    exact on (int_of a' rfl) (Cn.eq c45 (ty rfl (cnn (fun hx=>e8 _ (fun _=>mF fun g=>dF hx g.1) fun h=>(by cases h)) fun hx=>on (int_of a' rfl) (Cn.eq c45 (ty rfl (e8 _ (fun hy=>mF fun g=>dF (nb hy) g.2.1) fun hy=>⟨dT hx,dT (nb' hy)⟩))))))
theorem e60_2 (hf:M0.floor≤M0.nb.size) (hn:h.n=X.length) (hb:h.n≤1048576) (K:Keep M0 M) (a:M.nb[j]?=some (.cells h.cs 41)) (hR:Row M h.A (Sgs X)) (hl:h.less=false):A60_2 (some ⟨2*j,0,none⟩) 0 M (BK M0 (h.mayF X)):=by
  have sp:h.mayF X=(decide ((0≤h.sp∧h.sp≤7)∧(if h.cd then (3≤h.da∧h.da≤6)∧(0≤h.cb∧h.cb≤3)∧X.length=2 ^ h.cb.toNat else h.da=0∧h.cb=0∧X.length=0)∧
    (0≤h.l0∧h.l0≤63)∧(0≤h.l1∧h.l1≤63)∧(0≤h.l2∧h.l2≤63)∧(0≤h.l3∧h.l3≤63)) && X.all Sg.may):=by unfold Hd.mayF; rw [hl]; rfl
  have bad:(¬ ((0≤h.sp∧h.sp≤7)∧(if h.cd then (3≤h.da∧h.da≤6)∧(0≤h.cb∧h.cb≤3)∧X.length=2 ^ h.cb.toNat else h.da=0∧h.cb=0∧X.length=0)∧
    (0≤h.l0∧h.l0≤63)∧(0≤h.l1∧h.l1≤63)∧(0≤h.l2∧h.l2≤63)∧(0≤h.l3∧h.l3≤63)))→BK M0 (h.mayF X) (.bool false) M:=fun hb=>⟨by rw [sp,decide_eq_false hb]; rfl,K⟩
  refine w60_2 (cT (by decide) (ad rfl (ix (x:=⟨2*j,18,none⟩) (by kernel_rfl) (on (int_of (i:=18) a rfl) (Cn.eq c45 (ty rfl (cnn (fun h0=>bad (by have:=dF h0; omega)) fun h0=>?_)))))))
  refine w60_2 (cT (by decide) (ad rfl (ix (x:=⟨2*j,19,none⟩) (by kernel_rfl) (on (int_of (i:=19) a rfl) (Cn.eq c45 (ty rfl (cnn (fun h1=>bad (by have:=dF h1; omega)) fun h1=>?_)))))))
  refine w60_2 (cT (by decide) (ad rfl (ix (x:=⟨2*j,20,none⟩) (by kernel_rfl) (on (int_of (i:=20) a rfl) (Cn.eq c45 (ty rfl (cnn (fun h2=>bad (by have:=dF h2; omega)) fun h2=>?_)))))))
  refine w60_2 (cT (by decide) (ad rfl (ix (x:=⟨2*j,21,none⟩) (by kernel_rfl) (on (int_of (i:=21) a rfl) (Cn.eq c45 (ty rfl (cnn (fun h3=>bad (by have:=dF h3; omega)) fun h3=>?_)))))))
  have g0:=dT h0; have g1:=dT h1; have g2:=dT h2; have g3:=dT h3
  refine w60_2 (cF (by decide) (ad rfl (on (int_of a rfl) (Cn.eq c45 (ty rfl (cnn (fun h4=>bad (by have:=dF h4; omega)) fun h4=>ad rfl (on (bool_of a rfl) ?_)))))))
  have g4:=dT h4
  have e4:∀ b,(b=true→¬ (if h.cd then (3≤h.da∧h.da≤6)∧(0≤h.cb∧h.cb≤3)∧X.length=2 ^ h.cb.toNat else h.da=0∧h.cb=0∧X.length=0))→(b=false→(if h.cd then (3≤h.da∧h.da≤6)∧(0≤h.cb∧h.cb≤3)∧X.length=2 ^ h.cb.toNat else h.da=0∧h.cb=0∧X.length=0))→A60_4 (some ⟨2*j,0,none⟩) b M (BK M0 (h.mayF X)):=fun b h1 h0=>
    w60_4 (cn (fun hb'=>bad fun g=>h1 hb' g.2.1) fun hb'=>e60_6 hf hn hb h.n 0 (by omega) K a hR (by rw [sp,decide_eq_true ⟨g4,h0 hb',g0,g1,g2,g3⟩]; rfl))
  refine cnn (fun hc=>?_) fun hc=>?_
  · simp only [hc,Bool.false_eq_true,if_false] at sp bad
    refine ad rfl (on (int_of a rfl) (ce (fun hd=>ad rfl (on (int_of a rfl) (ce (fun he=>ad rfl (on (sl_of a rfl) ⟨?_,K⟩)) fun he=>bad fun g=>he g.2.1.2.1))) fun hd=>bad fun g=>hd g.2.1.1))
    rw [sp]
    congr 1
    show (((h.n:Nat):Int) == 0)=_
    rw [hn]
    by_cases hX:X.length=0
    · have:X=[]:=List.length_eq_zero_iff.1 hX
      subst this
      rw [decide_eq_true ⟨g4,⟨hd,he,rfl⟩,g0,g1,g2,g3⟩]; rfl
    · rw [decide_eq_false fun g=>hX g.2.1.2.2,Bool.false_and,beq_eq_false_iff_ne]; omega
  · simp only [hc,if_true] at e4
    refine ad rfl (on (int_of a rfl) (Cn.eq c45 (ty rfl (cnn (fun hd=>e4 _ (fun _ g=>dF hd g.1) fun h=>(by cases h)) fun hd=>ad rfl (on (int_of a rfl) (Cn.eq c45 (ty rfl (cnn (fun he=>e4 _ (fun _ g=>dF he g.2.1) fun h=>(by cases h)) fun he=>ad rfl (on (sl_of a rfl) (ad rfl (on (int_of a rfl) ?_)))))))))))
    have he':=dT he
    obtain ⟨p1,p2⟩:=pow2 (n:=h.cb) he'
    have hp:(2:Int) ^ h.cb.toNat=((2 ^ h.cb.toNat:Nat):Int):=by push_cast; rfl
    refine pu (shl_i64 (q:=h.cb.toNat) (by omega) (by omega) (by omega)) (ty rfl (e4 _ (fun hx g=>?_) fun hx=>⟨dT hd,he',?_⟩))
    · have:((h.n:Nat):Int)≠1*2 ^ h.cb.toNat:=ne_of_bneT hx
      rw [hp,hn] at this; have:=g.2.2; omega
    · have:((h.n:Nat):Int)=1*2 ^ h.cb.toNat:=eq_of_bneF hx
      rw [hp,hn] at this; omega
theorem e60_1 (hn:h.n=X.length) (K:Keep M0 M) (a:M.nb[j]?=some (.cells h.cs 41)) (hl:h.less=true) (b:Bool)
    (hb:b=decide ((h.l0=0∧h.l1=0∧h.l2=0∧h.l3=0)∧h.sp=0)):A60_1 (some ⟨2*j,0,none⟩) b M (BK M0 (h.mayF X)):=by
  have sp:h.mayF X=decide ((h.l0=0∧h.l1=0∧h.l2=0∧h.l3=0)∧h.sp=0∧h.cd=false∧h.da=0∧h.cb=0∧X.length=0∧(h.x0=false∧h.x1=false∧h.x2=false)):=by unfold Hd.mayF; rw [hl]; rfl
  have e9:∀ b:Bool,(b=decide (((h.l0=0∧h.l1=0∧h.l2=0∧h.l3=0)∧h.sp=0)∧h.cd=false∧h.da=0∧h.cb=0∧X.length=0))→A60_9 (some ⟨2*j,0,none⟩) b M (BK M0 (h.mayF X)):=by
    rintro b rfl
    refine w60_9 (cd (fun hh=>ad rfl (on (bool_of a rfl) (on (bool_of a rfl) (on (bool_of a rfl) (pu (eq39 ..).1 (ty rfl ⟨?_,K⟩)))))) fun hh=>⟨?_,K⟩)
    · rw [sp]; congr 1; rw [decide_eq_decide]; exact ⟨fun g=>⟨hh.1.1,hh.1.2,hh.2.1,hh.2.2.1,hh.2.2.2.1,hh.2.2.2.2,g⟩,fun g=>g.2.2.2.2.2.2⟩
    · rw [sp]; exact bF fun g=>hh ⟨⟨g.1,g.2.1⟩,g.2.2.1,g.2.2.2.1,g.2.2.2.2.1,g.2.2.2.2.2.1⟩
  have e7:∀ b:Bool,(b=decide (((h.l0=0∧h.l1=0∧h.l2=0∧h.l3=0)∧h.sp=0)∧h.cd=false∧h.da=0∧h.cb=0))→A60_7 (some ⟨2*j,0,none⟩) b M (BK M0 (h.mayF X)):=by
    rintro b rfl
    refine w60_7 (cd (fun hh=>ad rfl (on (sl_of a rfl) (e9 _ ?_))) fun hh=>e9 _ ?_)
    · rw [Bool.eq_iff_iff,beq_iff_eq,decide_eq_true_eq,hn]
      show ((X.length:Nat):Int)=0↔_
      exact ⟨fun g=>⟨hh.1,hh.2.1,hh.2.2.1,hh.2.2.2,by omega⟩,fun g=>by have:=g.2.2.2.2; omega⟩
    · rw [eq_comm]; exact decide_eq_false fun g=>hh ⟨g.1,g.2.1,g.2.2.1,g.2.2.2.1⟩
  have e5:∀ b:Bool,(b=decide (((h.l0=0∧h.l1=0∧h.l2=0∧h.l3=0)∧h.sp=0)∧h.cd=false∧h.da=0))→A60_5 (some ⟨2*j,0,none⟩) b M (BK M0 (h.mayF X)):=by
    rintro b rfl
    refine w60_5 (cd (fun hh=>ad rfl (on (int_of a rfl) (e7 _ ?_))) fun hh=>e7 _ ?_)
    · rw [Bool.eq_iff_iff,beq_iff_eq,decide_eq_true_eq]
      exact ⟨fun g=>⟨hh.1,hh.2.1,hh.2.2,g⟩,fun g=>g.2.2.2⟩
    · rw [eq_comm]; exact decide_eq_false fun g=>hh ⟨g.1,g.2.1,g.2.2.1⟩
  have e3:∀ b:Bool,(b=decide (((h.l0=0∧h.l1=0∧h.l2=0∧h.l3=0)∧h.sp=0)∧h.cd=false))→A60_3 (some ⟨2*j,0,none⟩) b M (BK M0 (h.mayF X)):=by
    rintro b rfl
    refine w60_3 (cd (fun hh=>ad rfl (on (int_of a rfl) (e5 _ ?_))) fun hh=>e5 _ ?_)
    · rw [Bool.eq_iff_iff,beq_iff_eq,decide_eq_true_eq]
      exact ⟨fun g=>⟨hh.1,hh.2,g⟩,fun g=>g.2.2⟩
    · rw [eq_comm]; exact decide_eq_false fun g=>hh ⟨g.1,g.2.1⟩
  subst hb
  refine w60_1 (cd (fun hh=>ad rfl (on (bool_of a rfl) (e3 _ ?_))) fun hh=>e3 _ ?_)
  · cases h.cd
    · rw [eq_comm]; exact decide_eq_true ⟨hh,rfl⟩
    · rw [eq_comm]; exact decide_eq_false fun g=>by cases g.2
  · rw [eq_comm]; exact decide_eq_false fun g=>hh g.1
theorem c60 (hf:M.floor≤M.nb.size) (hn:h.n=X.length) (hb:h.n≤1048576) (hR:Row M h.A (Sgs X)):Cn Try.prog 60 #[.agg h.cs] M (BK M (h.mayF X)):=by
  have a:=Mem.new_at M (.cells h.cs 41)
  have K:Keep M (M.new (.cells h.cs 41)):=.new _ _
  refine w60_0 ?_
  generalize M.new (.cells h.cs 41)=N at a K ⊢
  refine ldA a rfl (Cn.mono c54 ?_)
  rintro _ N2 ⟨rfl,K2⟩
  have a2:=at_keep a K2
  have KK:=K.trans K2
  refine ty rfl (cn (fun hl=>?_) fun hl=>e60_2 hf hn hb KK a2 (hR.keep KK) hl)
  refine on (int_of a2 rfl) (on (int_of a2 rfl) (on (int_of a2 rfl) (on (int_of a2 rfl) (pu (eq37 ..).1 (ty rfl (cd (fun hh=>on (int_of a2 rfl) (e60_1 hn KK a2 hl _ ?_)) fun hh=>e60_1 hn KK a2 hl _ ?_))))))
  · rw [Bool.eq_iff_iff,beq_iff_eq,decide_eq_true_eq]; exact ⟨fun g=>⟨hh,g⟩,fun g=>g.2⟩
  · rw [eq_comm]; exact decide_eq_false fun g=>hh g.1
def Hd.only (s:Int):Hd:=⟨true,s,false,false,0,0,0,0,0,0,0,0,0,0,0,0,0,false,0,0,0,0,0,false,0,0,none,0,0,false,false,false⟩
theorem same_only (hx:h.ex=true) (hn:h.n=X.length):h.same X (.only h.sl) []=h.mt X:=by
  unfold Hd.same Hd.mt sm1 sm2 sm3 sm4 sm5 sm6 sm7 sm8 sm9 sm10 sm11 sm12 sm13 sm14 sm15 sm16 sm17 Hd.only
  rw [Bool.eq_iff_iff]
  simp only [Bool.and_eq_true,beq_iff_eq,decide_eq_true_eq,hx,hn]
  have hX:X=[]↔X.length=0:=List.length_eq_zero_iff.symm
  rw [hX]
  constructor
  · rintro ⟨_,_,a1,a2,a3,a4,a5,a6,a7,a8,a9,a10,⟨a11,a12,a13,a14,a15,a16,a17,a18⟩⟩
    have hl:h.less=true:=decide_eq_true ⟨a6,a7⟩
    refine ⟨a1,a2,a3,a4,a5,hl,a8,a9,a10,?_⟩
    unfold Hd.mayF; rw [hl]; simp only [if_true,decide_eq_true_eq]
    exact ⟨a11,a12,a13,a14,a15,a18,a16⟩
  · rintro ⟨a1,a2,a3,a4,a5,hl,a8,a9,a10,hm⟩
    unfold Hd.mayF at hm; rw [hl] at hm; simp only [if_true,decide_eq_true_eq] at hm
    have:=of_decide_eq_true hl
    exact ⟨trivial,trivial,a1,a2,a3,a4,a5,this.1,this.2,a8,a9,a10,hm.1,hm.2.1,hm.2.2.1,hm.2.2.2.1,hm.2.2.2.2.1,hm.2.2.2.2.2.2,by omega,hm.2.2.2.2.2.1⟩
end
end Go.Zt

/- Layer 20: the document's Check of a frame header. -/
set_option linter.unusedSimpArgs false
set_option linter.unusedVariables false
set_option maxRecDepth 100000
namespace Go.Zt
open Go Go.Sim Go.Proofs Go.RowKit
section
variable {h:Hd} {X:List Sg} {M0 M:Mem} {j i:Nat} {w e:Int}
theorem may_iff (hx:h.ex=false) (hm:mayS w e=true):h.may X w e=true↔((h.sl=0∧(0≤h.rf∧h.rf≤255)∧(-1≤h.pr∧h.pr≤7)∧(0≤h.ba∧h.ba≤255))∧(h.ke=true→(h.r0=0∧h.r1=0∧h.r2=0)∧h.pr = -1)∧
    ((0≤h.r0∧h.r0≤7)∧(0≤h.r1∧h.r1≤7)∧(0≤h.r2∧h.r2≤7))∧((-31≤h.d0∧h.d0≤31)∧(-31≤h.d1∧h.d1≤31)∧(-31≤h.d2∧h.d2≤31)∧(-31≤h.d3∧h.d3≤31)∧(-31≤h.d4∧h.d4≤31))∧logM h.co w=true∧logM h.ro e=true∧h.mayF X=true):=by
  unfold Hd.may
  simp only [hx,hm,Bool.false_eq_true,if_false,Bool.true_and,Bool.and_eq_true,decide_eq_true_eq,Bool.or_eq_true,Bool.not_eq_true']
  constructor
  · rintro ⟨⟨⟨⟨⟨⟨a1,a2⟩,a3⟩,a4⟩,a5⟩,a6⟩,a7⟩
    exact ⟨a1,fun hk=>a5.resolve_left (by rw [hk]; decide),a6,a7,a2,a3,a4⟩
  · rintro ⟨a1,a5,a6,a7,a2,a3,a4⟩
    refine ⟨⟨⟨⟨⟨⟨a1,a2⟩,a3⟩,a4⟩,?_⟩,a6⟩,a7⟩
    cases hk:h.ke
    · exact .inl rfl
    · exact .inr (a5 hk)
theorem log_iff {n s:Int} (hs:16≤s∧s≤256) (h2:0≤n∧n≤2):(decide ((1:Int)*2 ^ n.toNat > (s+63) / 64)=true↔¬ logM n s=true):=by
  unfold logM
  rw [decide_eq_true_eq,decide_eq_true_eq,Int.one_mul]
  omega
theorem c27 (hf:M.floor≤M.nb.size) (hn:h.n=X.length) (hb:h.n≤1048576) (hR:Row M h.A (Sgs X)):Cn Try.prog 27 #[.agg h.cs,.agg #[.int .i64 w,.int .i64 e]] M (IntK M (er (h.may X w e):Nat)):=by
  have a:=Mem.new_at M (.cells h.cs 41)
  have K:Keep M (M.new (.cells h.cs 41)):=.new _ _
  refine w27_0 ?_
  generalize M.new (.cells h.cs 41)=N at a K ⊢
  have s:=Mem.new_at N (.cells #[.int .i64 w,.int .i64 e] 23)
  have K2:Keep N (N.new (.cells #[.int .i64 w,.int .i64 e] 23)):=.new _ _
  have a2:=at_keep a K2
  generalize N.new (.cells #[.int .i64 w,.int .i64 e] 23)=N2 at s K2 a2 ⊢
  have KK:=K.trans K2
  generalize M.nb.size=j at a2
  generalize N.nb.size=i at s
  refine on (int_of s rfl) (on (int_of s rfl) (Cn.mono c15 ?_))
  rintro _ N3 ⟨rfl,K3⟩
  have a3:=at_keep a2 K3
  have s3:=at_keep s K3
  have KK3:=KK.trans K3
  clear a2 s a
  refine ty rfl (cne (fun hm=>⟨?_,KK3⟩) fun hm=>on (bool_of a3 rfl) ?_)
  · have hm:mayS w e=false:=chk1 hm
    unfold Hd.may; rw [hm]; rfl
  have hm:mayS w e=true:=chk0 hm
  refine cn (fun hx=>?_) fun hx=>?_
  · -- a header that shows an old frame
    have e1:∀ {N:Mem} (b:Bool),Keep M N→(b=h.may X w e)→A27_1 b N (IntK M (er (h.may X w e):Nat)):=fun b K hb=>
      w27_1 (cn (fun h1=>⟨by rw [← hb,h1]; rfl,K⟩) fun h1=>⟨by rw [← hb,h1]; rfl,K⟩)
    have mq:h.may X w e=(decide (0≤h.sl∧h.sl≤7) && h.mt X):=by
      unfold Hd.may; rw [hm,hx,if_pos rfl,Bool.true_and]
      rw [Bool.eq_iff_iff]
      simp only [Bool.and_eq_true]
      refine ⟨fun g=>g.1.1,fun g=>⟨⟨g,?_⟩,?_⟩⟩
      · have:=of_decide_eq_true g.2; exact decide_eq_true (by omega)
      · have:=of_decide_eq_true (of_decide_eq_true g.2).2.2.2.2.2.1; exact decide_eq_true (by omega)
    refine on (int_of a3 rfl) (Cn.eq c45 (ty rfl (cn (fun hs=>ldA a3 rfl (on (int_of a3 rfl) (Cn.mono (c30 (g:=.only h.sl) (Y:=[]) (fb hf KK3) hn rfl hb (hR.keep KK3) row0) ?_))) fun hs=>e1 _ KK3 (by rw [mq,hs]; rfl))))
    rintro _ N4 ⟨rfl,K4⟩
    exact ty rfl (e1 _ (KK3.trans K4) (by rw [same_only hx hn,mq,hs]; rfl))
  have mi:=may_iff (h:=h) (X:=X) hx hm
  have bad:∀ {N:Mem},Keep M N→(¬ (h.may X w e=true))→IntK M (er (h.may X w e):Nat) (.int .i64 2) N:=fun K hh=>⟨by rw [Bool.eq_false_iff.2 hh]; rfl,K⟩
  have sz:(16≤w∧w≤256)∧(16≤e∧e≤256):=by have:=mayS_of hm; omega
  have e11:∀ {N:Mem} (b:Bool),Keep M N→(b = !(h.may X w e))→A27_11 b N (IntK M (er (h.may X w e):Nat)):=fun b K hb=>
    w27_11 (cn (fun h1=>bad K (by rw [h1,eq_comm,Bool.not_eq_true'] at hb; rw [hb]; decide)) fun h1=>⟨by rw [h1,eq_comm,Bool.not_eq_false'] at hb; rw [hb]; rfl,K⟩)
  have e10:∀ {N:Mem} (b:Bool),Keep M N→N.nb[j]?=some (.cells h.cs 41)→(b=true→¬ (h.may X w e=true))→(b=false→(h.may X w e=true↔h.mayF X=true))→A27_10 (some ⟨2*j,0,none⟩) b N (IntK M (er (h.may X w e):Nat)):=by
    intro N b K a h1 h0
    refine w27_10 (cn (fun hb'=>e11 _ K (by rw [Bool.eq_false_iff.2 (h1 hb')]; rfl)) fun hb'=>ad rfl (ldA a rfl (Cn.mono (c60 (fb hf K) hn hb (hR.keep K)) ?_)))
    rintro _ N4 ⟨rfl,K4⟩
    exact ty rfl (e11 _ (K.trans K4) (by rw [Bool.eq_iff_iff.2 (h0 hb')]))
  have e9:∀ {N:Mem} (b:Bool),Keep M N→N.nb[j]?=some (.cells h.cs 41)→N.nb[i]?=some (.cells #[.int .i64 w,.int .i64 e] 23)→(0≤h.co∧h.co≤2)→(0≤h.ro∧h.ro≤2)→(b=true→¬ (h.may X w e=true))→(b=false→(h.may X w e=true↔logM h.ro e=true∧h.mayF X=true))→A27_9 (some ⟨2*j,0,none⟩) (some ⟨2*i,0,none⟩) b N (IntK M (er (h.may X w e):Nat)):=by
    intro N b K a s q1 q2 h1 h0
    obtain ⟨p1,p2⟩:=pow2 (n:=h.ro) (by omega)
    refine w27_9 (cn (fun hb'=>e10 _ K a (fun _=>h1 hb') fun h=>(by cases h)) fun hb'=>ad rfl (on (int_of a rfl) (pu (shl_i64 (q:=h.ro.toNat) (by omega) (by omega) (by omega)) (ty rfl (ad rfl (on (int_of s rfl) (Cn.eq (c59 (M:={ N with floor:=N.nb.size }) sz.2) (ty rfl (e10 _ K a (fun hx hy=>?_) fun hx=>?_)))))))))
    · exact (log_iff sz.2 q2).1 hx ((h0 hb').1 hy).1
    · have:logM h.ro e=true:=by
        by_cases g:logM h.ro e=true
        · exact g
        · have:=(log_iff sz.2 q2).2 g; rw [this] at hx; cases hx
      rw [h0 hb']; exact ⟨fun g=>g.2,fun g=>⟨this,g⟩⟩
  have e8:∀ {N:Mem} (b:Bool),Keep M N→N.nb[j]?=some (.cells h.cs 41)→N.nb[i]?=some (.cells #[.int .i64 w,.int .i64 e] 23)→(b=true→¬ (h.may X w e=true))→(b=false→(0≤h.co∧h.co≤2)∧(0≤h.ro∧h.ro≤2)∧(h.may X w e=true↔logM h.co w=true∧logM h.ro e=true∧h.mayF X=true))→A27_8 (some ⟨2*j,0,none⟩) (some ⟨2*i,0,none⟩) b N (IntK M (er (h.may X w e):Nat)):=by
    intro N b K a s h1 h0
    refine w27_8 (cn (fun hb'=>w27_9 (cT rfl (e10 _ K a (fun _=>h1 hb') fun h=>(by cases h)))) fun hb'=>ad rfl (on (int_of a rfl) ?_))
    obtain ⟨q1,q2,q3⟩:=h0 hb'
    obtain ⟨p1,p2⟩:=pow2 (n:=h.co) (by omega)
    refine pu (shl_i64 (q:=h.co.toNat) (by omega) (by omega) (by omega)) (ty rfl (ad rfl (on (int_of s rfl) (Cn.eq (c59 (M:={ N with floor:=N.nb.size }) sz.1) (ty rfl (e9 _ K a s q1 q2 (fun hx hy=>?_) fun hx=>?_))))))
    · exact (log_iff sz.1 q1).1 hx (q3.1 hy).1
    · have:logM h.co w=true:=by
        by_cases g:logM h.co w=true
        · exact g
        · have:=(log_iff sz.1 q1).2 g; rw [this] at hx; cases hx
      rw [q3]; exact ⟨fun g=>g.2,fun g=>⟨this,g⟩⟩
  have lr:∀ {n s:Int},logM n s=true→0≤n∧n≤2:=fun g=>by have:=of_decide_eq_true g; omega
  have e6:((h.sl=0∧(0≤h.rf∧h.rf≤255)∧(-1≤h.pr∧h.pr≤7)∧(0≤h.ba∧h.ba≤255))∧(h.ke=true→(h.r0=0∧h.r1=0∧h.r2=0)∧h.pr = -1))→A27_6 (some ⟨2*j,0,none⟩) (some ⟨2*i,0,none⟩) 0 N3 (IntK M (er (h.may X w e):Nat)):=by
    intro g
    refine w27_6 (cT (by decide) (ad rfl (ix (x:=⟨2*j,5,none⟩) (by kernel_rfl) (on (int_of (i:=5) a3 rfl) (Cn.eq c45 (ty rfl (cnn (fun h0=>bad KK3 fun hh=>dF h0 (mi.1 hh).2.2.1.1) fun r0=>?_)))))))
    refine w27_6 (cT (by decide) (ad rfl (ix (x:=⟨2*j,6,none⟩) (by kernel_rfl) (on (int_of (i:=6) a3 rfl) (Cn.eq c45 (ty rfl (cnn (fun h0=>bad KK3 fun hh=>dF h0 (mi.1 hh).2.2.1.2.1) fun r1=>?_)))))))
    refine w27_6 (cT (by decide) (ad rfl (ix (x:=⟨2*j,7,none⟩) (by kernel_rfl) (on (int_of (i:=7) a3 rfl) (Cn.eq c45 (ty rfl (cnn (fun h0=>bad KK3 fun hh=>dF h0 (mi.1 hh).2.2.1.2.2) fun r2=>?_)))))))
    refine w27_6 (cF (by decide) ?_)
    refine w27_7 (cT (by decide) (ad rfl (ix (x:=⟨2*j,10,none⟩) (by kernel_rfl) (on (int_of (i:=10) a3 rfl) (Cn.eq c45 (ty rfl (cnn (fun h0=>bad KK3 fun hh=>dF h0 (mi.1 hh).2.2.2.1.1) fun d0=>?_)))))))
    refine w27_7 (cT (by decide) (ad rfl (ix (x:=⟨2*j,11,none⟩) (by kernel_rfl) (on (int_of (i:=11) a3 rfl) (Cn.eq c45 (ty rfl (cnn (fun h0=>bad KK3 fun hh=>dF h0 (mi.1 hh).2.2.2.1.2.1) fun d1=>?_)))))))
    refine w27_7 (cT (by decide) (ad rfl (ix (x:=⟨2*j,12,none⟩) (by kernel_rfl) (on (int_of (i:=12) a3 rfl) (Cn.eq c45 (ty rfl (cnn (fun h0=>bad KK3 fun hh=>dF h0 (mi.1 hh).2.2.2.1.2.2.1) fun d2=>?_)))))))
    refine w27_7 (cT (by decide) (ad rfl (ix (x:=⟨2*j,13,none⟩) (by kernel_rfl) (on (int_of (i:=13) a3 rfl) (Cn.eq c45 (ty rfl (cnn (fun h0=>bad KK3 fun hh=>dF h0 (mi.1 hh).2.2.2.1.2.2.2.1) fun d3=>?_)))))))
    refine w27_7 (cT (by decide) (ad rfl (ix (x:=⟨2*j,14,none⟩) (by kernel_rfl) (on (int_of (i:=14) a3 rfl) (Cn.eq c45 (ty rfl (cnn (fun h0=>bad KK3 fun hh=>dF h0 (mi.1 hh).2.2.2.1.2.2.2.2) fun d4=>?_)))))))
    have all:h.may X w e=true↔(logM h.co w=true∧logM h.ro e=true∧h.mayF X=true):=by
      rw [mi]; exact ⟨fun q=>q.2.2.2.2,fun q=>⟨g.1,g.2,⟨dT r0,dT r1,dT r2⟩,⟨dT d0,dT d1,dT d2,dT d3,dT d4⟩,q⟩⟩
    refine w27_7 (cF (by decide) (ad rfl (on (int_of a3 rfl) (Cn.eq c45 (ty rfl (cnn (fun h0=>e8 _ KK3 a3 s3 (fun _ hh=>dF h0 (lr (all.1 hh).1)) fun h=>(by cases h)) fun h0=>ad rfl (on (int_of a3 rfl) (Cn.eq c45 (ty rfl (e8 _ KK3 a3 s3 (fun hx hh=>dF (nb hx) (lr (all.1 hh).2.1)) fun hx=>⟨dT h0,dT (nb' hx),all⟩))))))))))
  have e5:∀ b:Bool,(h.sl=0∧(0≤h.rf∧h.rf≤255)∧(-1≤h.pr∧h.pr≤7)∧(0≤h.ba∧h.ba≤255))→(b=true→¬ (h.ke=true→(h.r0=0∧h.r1=0∧h.r2=0)∧h.pr = -1))→(b=false→(h.ke=true→(h.r0=0∧h.r1=0∧h.r2=0)∧h.pr = -1))→A27_5 (some ⟨2*j,0,none⟩) (some ⟨2*i,0,none⟩) b N3 (IntK M (er (h.may X w e):Nat)):=fun b g h1 h0=>
    w27_5 (cn (fun hb'=>bad KK3 fun hh=>h1 hb' (mi.1 hh).2.1) fun hb'=>e6 ⟨g,h0 hb'⟩)
  have e4:∀ b:Bool,(b=true→¬ (h.sl=0∧(0≤h.rf∧h.rf≤255)∧(-1≤h.pr∧h.pr≤7)∧(0≤h.ba∧h.ba≤255)))→(b=false→(h.sl=0∧(0≤h.rf∧h.rf≤255)∧(-1≤h.pr∧h.pr≤7)∧(0≤h.ba∧h.ba≤255)))→A27_4 (some ⟨2*j,0,none⟩) (some ⟨2*i,0,none⟩) b N3 (IntK M (er (h.may X w e):Nat)):=fun b h1 h0=>
    w27_4 (cn (fun hb'=>bad KK3 fun hh=>h1 hb' (mi.1 hh).1) fun hb'=>ad rfl (on (bool_of a3 rfl) (cn (fun hk=>ad rfl (on (int_of a3 rfl) (on (int_of a3 rfl) (on (int_of a3 rfl) (pu (eq35 ..).2 (ty rfl (cnn (fun hr=>e5 _ (h0 hb') (fun _ hh=>dF hr (hh hk).1) fun h=>(by cases h)) fun hr=>ad rfl (on (int_of a3 rfl) (e5 _ (h0 hb') (fun hx hh=>ne_of_bneT hx (hh hk).2) fun hx _=>⟨dT hr,eq_of_bneF hx⟩)))))))) ) fun hk=>e5 _ (h0 hb') (fun h=>(by cases h)) fun _ h=>by rw [hk] at h; cases h)))
  have e3:∀ b:Bool,(b=true→¬ (h.sl=0∧(0≤h.rf∧h.rf≤255)∧(-1≤h.pr∧h.pr≤7)))→(b=false→(h.sl=0∧(0≤h.rf∧h.rf≤255)∧(-1≤h.pr∧h.pr≤7)))→A27_3 (some ⟨2*j,0,none⟩) (some ⟨2*i,0,none⟩) b N3 (IntK M (er (h.may X w e):Nat)):=fun b h1 h0=>
    w27_3 (cn (fun hb'=>e4 _ (fun _ hh=>h1 hb' ⟨hh.1,hh.2.1,hh.2.2.1⟩) fun h=>(by cases h)) fun hb'=>ad rfl (on (int_of a3 rfl) (Cn.eq c45 (ty rfl (e4 _ (fun hx hh=>dF (nb hx) hh.2.2.2) fun hx=>⟨(h0 hb').1,(h0 hb').2.1,(h0 hb').2.2,dT (nb' hx)⟩)))))
  have e2:∀ b:Bool,(b=true→¬ (h.sl=0∧(0≤h.rf∧h.rf≤255)))→(b=false→(h.sl=0∧(0≤h.rf∧h.rf≤255)))→A27_2 (some ⟨2*j,0,none⟩) (some ⟨2*i,0,none⟩) b N3 (IntK M (er (h.may X w e):Nat)):=fun b h1 h0=>
    w27_2 (cn (fun hb'=>e3 _ (fun _ hh=>h1 hb' ⟨hh.1,hh.2.1⟩) fun h=>(by cases h)) fun hb'=>ad rfl (on (int_of a3 rfl) (Cn.eq c45 (ty rfl (e3 _ (fun hx hh=>dF (nb hx) hh.2.2) fun hx=>⟨(h0 hb').1,(h0 hb').2,dT (nb' hx)⟩)))))
  exact on (int_of a3 rfl) (cne (fun hs=>e2 _ (fun _ hh=>hs hh.1) fun h=>(by cases h)) fun hs=>on (int_of a3 rfl) (Cn.eq c45 (ty rfl (e2 _ (fun hx hh=>dF (nb hx) hh.2) fun hx=>⟨hs,dT (nb' hx)⟩))))
end
end Go.Zt

/- Layer 20: the program's coding of numbers,truths,deltas,logs: writing or reading,its first error noted. -/
set_option linter.unusedSimpArgs false
set_option linter.unusedVariables false
set_option maxRecDepth 100000
namespace Go.Zt
open Go Go.Sim Go.Proofs Go.RowKit
inductive Dv where
  | w (l:List Nat)
  | r (b:List Nat) (p:Nat)
abbrev Dv.wp (j:Nat):Dv→Value
  | .w _=>PtrB j
  | .r _ _=>.pointer none
abbrev Dv.rp (j:Nat):Dv→Value
  | .w _=>.pointer none
  | .r _ _=>PtrB j
def Dv.len:Dv→Nat
  | .w l=>l.length
  | .r _ _=>0
def DvM (U:Nat→Prop) (M:Mem) (j:Nat):Dv→Prop
  | .w l=>Wr (fun i=>U i∨M.nb.size≤i) M j l
  | .r b p=>Rdr U M j b p
structure St (U:Nat→Prop) (M:Mem) (jc jd:Nat) (d:Dv) (e k:Nat):Prop where
  dev:DvM U M jd d
  fl:∀ i,U i∨i=jd∨i=jc→M.floor≤i
  fs:M.floor≤M.nb.size
  cod:M.nb[jc]?=some (.cells #[d.wp jd,d.rp jd,.int .i64 (e:Nat)] 89)
  nc:¬ U jc
  cd:jc≠jd
  len:d.len+40*k≤80000000000
  ub:∀ i,U i→i<M.nb.size
structure Ext (P U:Nat→Prop) (M:Mem) (U':Nat→Prop) (N:Mem):Prop where
  sub:∀ i,U' i→U i∨M.nb.size≤i
  chg:Chg (fun i=>U i∨P i) M N
theorem Ext.refl {P U:Nat→Prop} {M:Mem}:Ext P U M U M:=⟨fun _ h=>.inl h,.refl _⟩
theorem Ext.trans {P U U1 U2:Nat→Prop} {M M1 M2:Mem} (h:Ext P U M U1 M1) (k:Ext P U1 M1 U2 M2):Ext P U M U2 M2:=
  ⟨fun i hi=>(k.sub i hi).elim (h.sub i) fun hs=>.inr (Nat.le_trans h.chg.size hs),
   ⟨k.chg.base.trans h.chg.base,k.chg.floor.trans h.chg.floor,Nat.le_trans h.chg.size k.chg.size,fun j hj hs=>
    (k.chg.same j (Nat.lt_of_lt_of_le hj h.chg.size) fun hh=>hh.elim (fun h1=>(h.sub j h1).elim (fun q=>hs (.inl q)) fun q=>by omega) fun h1=>hs (.inr h1)).trans (h.chg.same j hj hs)⟩⟩
theorem Ext.mono {P Q U U1:Nat→Prop} {M M1:Mem} (h:Ext P U M U1 M1) (hP:∀ i,i<M.nb.size→P i→Q i):Ext Q U M U1 M1:=⟨h.sub,h.chg.mono fun i hi hs=>hs.imp id (hP i hi)⟩
theorem Ext.of {P U T:Nat→Prop} {M M1:Mem} (h:Chg T M M1) (hT:∀ i,i<M.nb.size→T i→U i∨P i):Ext P U M U M1:=⟨fun _ h=>.inl h,h.mono hT⟩
theorem Ext.at {P U U1:Nat→Prop} {M M1:Mem} (h:Ext P U M U1 M1) {j:Nat} {b:Blk} (a:M.nb[j]?=some b) (n1:¬ U j) (n2:¬ P j):M1.nb[j]?=some b∧¬ U1 j:=by
  have hl:=lt_of_at a
  exact ⟨at_chg a h.chg fun hh=>hh.elim n1 n2,fun hu=>(h.sub j hu).elim n1 fun q=>by omega⟩
theorem Wr.shrink {S T:Nat→Prop} {M:Mem} {j:Nat} {l:List Nat} (h:Wr S M j l) (hS:∀ i,i<M.nb.size→S i→T i) (hj:¬ T j):Wr T M j l:=by
  obtain ⟨A,c,g1,g2,g3⟩:=h.ex
  exact ⟨hj,h.bin,h.len,A,c,g1,g2.mono hS,g3⟩
section
variable {U:Nat→Prop} {M N:Mem} {jc jd jt k e:Nat} {d:Dv}
theorem DvM.lt (h:DvM U M jd d):jd<M.nb.size:=by
  cases d with
  | w l=>obtain ⟨A,c,g1,_⟩:=h.ex; exact lt_of_at g1
  | r b p=>obtain ⟨A,c,g1,_⟩:=h.ex; exact lt_of_at g1
theorem DvM.out (h:DvM U M jd d):¬ U jd:=by
  cases d with
  | w l=>exact fun hu=>h.out (.inl hu)
  | r b p=>exact h.out
theorem DvM.chg {T:Nat→Prop} (h:DvM U M jd d) (k:Chg T M N) (hT:∀ i,i<M.nb.size→U i∨i=jd→¬ T i):DvM U N jd d:=by
  have hl:=h.lt
  have ho:=h.out
  cases d with
  | w l=>
    have h1:Wr U M jd l:=h.shrink (fun i hi hs=>hs.resolve_right (by omega)) ho
    obtain ⟨A,c,g1,g2,g3⟩:=h1.ex
    refine ⟨fun hs=>hs.elim ho fun q=>by have:=k.size; omega,h1.bin,h1.len,A,c,at_chg g1 k (hT jd hl (.inr rfl)),?_,g3⟩
    exact (g2.chg k fun i hi hs=>hT i hi (.inl hs)).mono fun i _ hs=>.inl hs
  | r b p=>
    obtain ⟨A,c,h1,h2,h3,h0,h4⟩:=h.ex
    refine ⟨h.out,h.byt,h.len,h.pos,A,c,at_chg h1 k (hT jd hl (.inr rfl)),?_,h3,h0,h4⟩
    exact Row.chg h2 (k.mono (T:=fun i=>T i∧i<M.nb.size) fun i hi ht=>⟨ht,hi⟩) fun a ha=>(h4 a ha).imp id fun hu hs=>hT _ hs.2 (.inl hu) hs.1
theorem St.chg {T:Nat→Prop} (h:St U M jc jd d e k) (q:Chg T M N) (hT:∀ i,i<M.nb.size→U i∨i=jd∨i=jc→¬ T i):St U N jc jd d e k:=
  ⟨h.dev.chg q fun i hi hu=>hT i hi (hu.imp id .inl),fun i hi=>by rw [q.floor]; exact h.fl i hi,by rw [q.floor]; exact Nat.le_trans h.fs q.size,at_chg h.cod q (hT jc (lt_of_at h.cod) (.inr (.inr rfl))),h.nc,h.cd,h.len,fun i hi=>Nat.lt_of_lt_of_le (h.ub i hi) q.size⟩
theorem St.keep (h:St U M jc jd d e k) (q:Keep M N):St U N jc jd d e k:=h.chg q fun _ _ _ x=>x
theorem St.mono {k':Nat} (h:St U M jc jd d e k) (hk:k'≤k):St U M jc jd d e k':=⟨h.dev,h.fl,h.fs,h.cod,h.nc,h.cd,by have:=h.len; omega,h.ub⟩
theorem St.err (h:St U M jc jd d e k) (e':Nat):∃ N,M.put (2*jc) 2 (.int .i64 (e':Nat))=some N∧Chg (· = jc) M N∧N.nb.size=M.nb.size∧St U N jc jd d e' k:=by
  obtain ⟨N,p,C,s,u⟩:=put1 2 (.int .i64 (e':Nat)) h.cod (h.fl jc (.inr (.inr rfl))) (by simp) rfl
  exact ⟨N,p,C,s,h.dev.chg C fun i _ hu hc=>hu.elim (fun hu=>h.nc (hc ▸ hu)) fun hd=>h.cd (hc ▸ hd),fun i hi=>by rw [C.floor]; exact h.fl i hi,by rw [C.floor,s]; exact h.fs,u,h.nc,h.cd,h.len,by rw [s]; exact h.ub⟩
def numD (d:Dv) (e:Nat) (v n f:Int):Dv × Nat × Int:=
  if e≠0 then (d,e,v) else match d with
  | .w l=>(.w (wFixed l (toU (IntKind.i64.wrap (v - f))) n).2,(wFixed l (toU (IntKind.i64.wrap (v - f))) n).1,v)
  | .r b p=>(.r b (rFixed b p n).2.2,(rFixed b p n).2.1,if (rFixed b p n).2.1=0 then ((rFixed b p n).1:Nat)+f else v)
theorem setSame {cs:Array Value} {o:Nat} {x:Value} (h:cs[o]?=some x):cs.setIfInBounds o x=cs:=by
  apply Array.ext_getElem?
  intro i
  rw [Array.getElem?_setIfInBounds]
  split
  · rename_i e; subst e
    obtain ⟨h1,h2⟩:=Array.getElem?_eq_some_iff.1 h
    simp [h1,h2]
  · rfl
theorem toU_lt (x:Int):toU x<4294967296:=by unfold toU; omega
theorem wFixed_len (l:List Nat) (v:Nat) {n:Int} (h:n≤32):(wFixed l v n).2.length≤l.length+32:=by
  unfold wFixed
  split
  · simp
  · simp [bitsN_len]; omega
theorem St.wr {l l':List Nat} {N:Mem} (h:St U M jc jd (.w l) e (k+1)) (C:Chg (fun i=>(U i∨M.nb.size≤i)∨i=jd) M N) (W:Wr (fun i=>U i∨M.nb.size≤i) N jd l') (hl:l'.length≤l.length+40) (e':Nat):
    ∃ N2,N.put (2*jc) 2 (.int .i64 (e':Nat))=some N2∧∃ U',Ext (fun i=>i=jc∨i=jd) U M U' N2∧St U' N2 jc jd (.w l') e' k:=by
  have hc:=lt_of_at h.cod
  have hd:=h.dev.lt
  have nc:¬ ((U jc∨M.nb.size≤jc)∨jc=jd):=fun hh=>hh.elim (fun q=>q.elim h.nc fun q=>by omega) h.cd
  have a:=at_chg h.cod C nc
  obtain ⟨N2,p,C2,s,u⟩:=put1 2 (.int .i64 (e':Nat)) a (by rw [C.floor]; exact h.fl jc (.inr (.inr rfl))) (by simp) rfl
  refine ⟨N2,p,fun i=>U i∨(M.nb.size≤i∧i<N2.nb.size),⟨fun i hi=>hi.imp id fun q=>q.1,?_⟩,?_,?_,?_,u,?_,h.cd,?_,?_⟩
  · exact (C.mono (T:=fun i=>U i∨i=jc∨i=jd) fun i hi hs=>hs.elim (fun q=>.inl (q.resolve_right (by omega))) fun q=>.inr (.inr q)).trans (C2.mono fun i hi hs=>.inr (.inl hs))
  · refine (W.chg C2 fun i hi hs hj=>?_).shrink (fun i hi hs=>?_) ?_
    · subst hj
      exact nc (hs.imp id id)
    · exact .inl (hs.imp id fun q=>⟨q,hi⟩)
    · rintro ((hu | hu) | hu)
      · exact h.dev.out hu
      · omega
      · have:=C.size; omega
  · intro i hi
    rw [C2.floor,C.floor]
    rcases hi with (hi | hi) | hi
    · exact h.fl i (.inl hi)
    · exact Nat.le_trans h.fs hi.1
    · exact h.fl i (.inr hi)
  · rw [C2.floor,C.floor]; have:=C.size; have:=h.fs; omega
  · rintro (hu | hu)
    · exact h.nc hu
    · omega
  · have:=h.len
    simp only [Dv.len] at this ⊢; omega
  · rintro i (hi | hi)
    · have:=h.ub i hi; have:=C.size; have:=C2.size; omega
    · exact hi.2
theorem St.flw {l:List Nat} (h:St U M jc jd (.w l) e k):Fl (fun i=>U i∨M.nb.size≤i) M jd:=
  ⟨fun i hi=>by
    rcases hi with (hi | hi) | hi
    · exact h.fl i (.inl hi)
    · exact Nat.le_trans h.fs hi
    · exact h.fl i (.inr (.inl hi)),fun i hi=>.inr hi⟩
theorem c74e (h:St U M jc jd d e k) (he:e≠0) {p:Option Addr} {n f:Int}:Cn Try.prog 74 #[PtrB jc,.pointer p,.int .i64 n,.int .i64 f] M fun u N=>u=.tuple #[]∧N=M:=
  w74_0 (ad rfl (on (int_of h.cod rfl) (cne (fun _=>⟨rfl,rfl⟩) fun h0=>absurd h0 (by omega))))
theorem c74w {l:List Nat} (h:St U M jc jd (.w l) 0 (k+1)) {a:Addr} {v n f:Int} (hv:M.intAt .i64 a.block a.off=some v) (hn:n≤32):
    Cn Try.prog 74 #[PtrB jc,.pointer (some a),.int .i64 n,.int .i64 f] M fun u N=>u=.tuple #[]∧∃ U',Ext (fun i=>i=jc∨i=jd) U M U' N∧St U' N jc jd (numD (.w l) 0 v n f).1 (numD (.w l) 0 v n f).2.1 k:=by
  have hl:=h.len
  refine w74_0 (ad rfl (on (int_of h.cod rfl) (cne (fun h0=>absurd rfl h0) fun _=>ad rfl (on (ptr_of h.cod rfl) (cT rfl (ad rfl (on (ptr_of h.cod rfl) (ad rfl (on hv (Cn.mono (c22 h.flw h.dev (toU_wrap _) (toU_lt _) n (by simp only [Dv.len] at hl; omega)) ?_)))))))))) 
  rintro _ N ⟨rfl,C,W⟩
  obtain ⟨N2,p,U',E,S⟩:=h.wr C W (by have:=wFixed_len l (toU (IntKind.i64.wrap (v - f))) hn; omega) (wFixed l (toU (IntKind.i64.wrap (v - f))) n).1
  exact ty rfl (ad rfl (pt p ⟨rfl,U',E,S⟩))
theorem c74 {cs:Array Value} {t:TypeId} {o:Nat} {v:Int} (h:St U M jc jd d e (k+1)) (a:M.nb[jt]?=some (.cells cs t)) (hf:M.floor≤jt) (n1:jt≠jd) (n2:jt≠jc) (n3:¬ U jt) (hv:cs[o]?=some (.int .i64 v)) {n f:Int} (hn:n≤32) (hf3:0≤f∧f≤3):
    Cn Try.prog 74 #[PtrB jc,.pointer (some ⟨2*jt,o,none⟩),.int .i64 n,.int .i64 f] M fun u N=>u=.tuple #[]∧∃ U',Ext (fun i=>i=jc∨i=jd∨i=jt) U M U' N∧St U' N jc jd (numD d e v n f).1 (numD d e v n f).2.1 k∧N.nb[jt]?=some (.cells (cs.setIfInBounds o (.int .i64 (numD d e v n f).2.2)) t)∧¬ U' jt:=by
  by_cases he:e≠0
  · have q:numD d e v n f=(d,e,v):=by unfold numD; rw [if_pos he]
    rw [q]
    refine Cn.mono (c74e h he) ?_
    rintro _ N ⟨rfl,rfl⟩
    exact ⟨rfl,U,.refl,h.mono (by omega),by rw [setSame hv]; exact a,n3⟩
  · have he:e=0:=by omega
    subst he
    cases d with
    | w l=>
      refine Cn.mono (c74w (f:=f) h (int_of a hv) hn) ?_
      rintro _ N ⟨rfl,U',E,S⟩
      have q:(numD (.w l) 0 v n f).2.2=v:=rfl
      have:=E.at a n3 fun hh=>hh.elim n2 n1
      exact ⟨rfl,U',E.mono fun i _ hh=>hh.imp id .inl,S,by rw [q,setSame hv]; exact this.1,this.2⟩
    | r b p=>
      refine w74_0 (ad rfl (on (int_of h.cod rfl) (cne (fun h0=>absurd rfl h0) fun _=>ad rfl (on (ptr_of h.cod rfl) (cF rfl (ad rfl (on (ptr_of h.cod rfl) (Cn.mono (c33 h.dev (h.fl jd (.inr (.inl rfl))) n) ?_))))))))
      rintro _ N ⟨rfl,C,s,R⟩
      have S1:St U N jc jd (.r b (rFixed b p n).2.2) 0 (k+1):=⟨R,fun i hi=>by rw [C.floor]; exact h.fl i hi,by rw [C.floor,s]; exact h.fs,at_chg h.cod C h.cd,h.nc,h.cd,h.len,by rw [s]; exact h.ub⟩
      have a1:=at_chg a C n1
      obtain ⟨N2,p2,C2,s2,S2⟩:=S1.err (rFixed b p n).2.1
      have a2:=at_chg a1 C2 n2
      have E2:Ext (fun i=>i=jc∨i=jd∨i=jt) U M U N2:=(Ext.of C fun i _ hh=>.inr (.inr (.inl hh))).trans (Ext.of C2 fun i _ hh=>.inr (.inl hh))
      refine ty rfl (ty rfl (ty rfl (ad rfl (pt p2 (ad rfl (on (int_of S2.cod rfl) (ce (fun h0=>ad rfl ?_) fun h0=>?_)))))))
      · have h0':(rFixed b p n).2.1=0:=by omega
        have hr:(rFixed b p n).1<4294967296:=by
          unfold rFixed
          split
          · show 0<_; omega
          · split
            · show 0<_; omega
            · rename_i h1 _
              have:=numb_lt (bitOf_lt b) p n.toNat
              have:=pow32 (n:=n.toNat) (by omega)
              dsimp only; omega
        rw [i64w (x:=(((rFixed b p n).1:Nat):Int)) (by omega),i64w (by omega)]
        obtain ⟨N3,p3,C3,s3,u3⟩:=put1 o (.int .i64 ((((rFixed b p n).1:Nat):Int)+f)) a2 (by rw [C2.floor,C.floor]; exact hf) (Array.getElem?_eq_some_iff.1 hv).1 rfl
        refine pt p3 ⟨rfl,U,E2.trans (Ext.of C3 fun i _ hh=>.inr (.inr (.inr hh))),?_,?_,n3⟩
        · exact (S2.chg C3 fun i _ hu hh=>by
            subst hh
            rcases hu with hu | hu | hu
            · exact n3 hu
            · exact n1 hu
            · exact n2 hu).mono (by omega)
        · have q:(numD (.r b p) 0 v n f).2.2=(((rFixed b p n).1:Nat):Int)+f:=by
            show (if (rFixed b p n).2.1=0 then _ else _)=_
            rw [if_pos h0']
          rw [q]; exact u3
      · have q:(numD (.r b p) 0 v n f).2.2=v:=by
          show (if (rFixed b p n).2.1=0 then _ else _)=_
          rw [if_neg (by omega)]
        exact ⟨rfl,U,E2,S2.mono (by omega),by rw [q,setSame hv]; exact a2,n3⟩
def flagD (d:Dv) (e:Nat) (b:Bool):Dv × Nat × Bool:=
  ((numD d e (if b then 1 else 0) 1 0).1,(numD d e (if b then 1 else 0) 1 0).2.1,(numD d e (if b then 1 else 0) 1 0).2.2 == 1)
theorem c73 {cs:Array Value} {t:TypeId} {o:Nat} {b:Bool} (h:St U M jc jd d e (k+1)) (a:M.nb[jt]?=some (.cells cs t)) (hf:M.floor≤jt) (n1:jt≠jd) (n2:jt≠jc) (n3:¬ U jt) (hv:cs[o]?=some (.bool b)):
    Cn Try.prog 73 #[PtrB jc,.pointer (some ⟨2*jt,o,none⟩)] M fun u N=>u=.tuple #[]∧∃ U',Ext (fun i=>i=jc∨i=jd∨i=jt) U M U' N∧St U' N jc jd (flagD d e b).1 (flagD d e b).2.1 k∧N.nb[jt]?=some (.cells (cs.setIfInBounds o (.bool (flagD d e b).2.2)) t)∧¬ U' jt:=by
  have hjt:=lt_of_at a
  have ho:=(Array.getElem?_eq_some_iff.1 hv).1
  have hjd:=h.dev.lt
  have hjc:=lt_of_at h.cod
  have q0:=Mem.new_at M (.cells #[.int .i64 0] 3)
  have K0:Keep M (M.new (.cells #[.int .i64 0] 3)):=.new _ _
  have s0:=Mem.new_size M (.cells #[.int .i64 0] 3)
  refine w73_0 ?_
  generalize M.new (.cells #[.int .i64 0] 3)=M0 at q0 K0 s0 ⊢
  have f0:M0.floor≤M.nb.size:=by rw [K0.floor]; exact h.fs
  obtain ⟨M1,p1,C1,s1,u1⟩:=put1 0 (.int .i64 0) q0 f0 (by simp) rfl
  have K1:Keep M M1:=Keep.step K0 C1 fun i hi=>by omega
  have a1:=at_keep a K1
  have nj:∀ {i},i<M.nb.size→i≠M.nb.size:=fun h=>by omega
  have nU:¬ U M.nb.size:=fun hu=>by have:=h.ub _ hu; omega
  have go:∀ {N:Mem} (x:Int),Keep M N→N.nb[M.nb.size]?=some (.cells #[.int .i64 x] 3)→x=(if b then 1 else 0)→
      Cn Try.prog 74 #[PtrB jc,.pointer (some ⟨2*M.nb.size,0,none⟩),.int .i64 1,.int .i64 0] N fun _ N5=>onS (N5.intAt .i64 (2*M.nb.size) 0) fun x6=>adS (some (⟨2*jt,o,none⟩:Addr)) fun a7=>ptS (N5.put a7.block a7.off (.bool (x6 == 1))) fun M8=>
        (Value.tuple #[]=.tuple #[]∧∃ U',Ext (fun i=>i=jc∨i=jd∨i=jt) U M U' M8∧St U' M8 jc jd (flagD d e b).1 (flagD d e b).2.1 k∧M8.nb[jt]?=some (.cells (cs.setIfInBounds o (.bool (flagD d e b).2.2)) t)∧¬ U' jt):=by
    intro N x K u hx
    have hN:=h.keep K
    refine Cn.mono (c74 hN u (by rw [K.floor]; exact h.fs) (by omega) (by omega) nU (v:=x) rfl (by decide) (by decide)) ?_
    rintro _ N5 ⟨_,U',E,S,u5,nu5⟩
    have at5:=E.at (at_keep a K) n3 fun hh=>by omega
    obtain ⟨N6,p6,C6,s6,u6⟩:=put1 o (.bool ((numD d e x 1 0).2.2 == 1)) at5.1 (by rw [E.chg.floor,K.floor]; exact hf) ho rfl
    refine on (int_of u5 rfl) (ad rfl (pt p6 ⟨rfl,U',⟨fun i hi=>?_,?_⟩,?_,?_,at5.2⟩))
    · exact (E.sub i hi).imp id fun q=>Nat.le_trans K.size q
    · refine (Chg.trans (S:=fun i=>U i∨i=jc∨i=jd∨i=jt) (M2:=N5) ⟨E.chg.base.trans K.base,E.chg.floor.trans K.floor,Nat.le_trans K.size E.chg.size,fun j hj hs=>?_⟩ (C6.mono fun i hi hs=>.inr (.inr (.inr hs))))
      exact (E.chg.same j (Nat.lt_of_lt_of_le hj K.size) fun hh=>hh.elim (fun q=>hs (.inl q)) fun q=>q.elim (fun q=>hs (.inr (.inl q))) fun q=>q.elim (fun q=>hs (.inr (.inr (.inl q)))) fun q=>by omega).trans (K.same j hj fun x=>x)
    · subst hx
      exact S.chg C6 fun i _ hu hh=>by
        subst hh
        rcases hu with hu | hu | hu
        · exact at5.2 hu
        · exact n1 hu
        · exact n2 hu
    · subst hx; exact u6
  refine pt p1 (ad rfl (on (bool_of a1 hv) (cn (fun hb=>?_) fun hb=>?_)))
  · obtain ⟨M2,p2,C2,s2,u2⟩:=put1 0 (.int .i64 1) u1 (by rw [C1.floor]; exact f0) (by simp) rfl
    exact pt p2 (go 1 (Keep.step K1 C2 fun i hi=>by omega) u2 (by rw [hb]; rfl))
  · exact go 0 K1 u1 (by rw [hb]; rfl)
end
end Go.Zt

/- Layer 20: the program's coding of deltas and logs. -/
set_option linter.unusedSimpArgs false
set_option linter.unusedVariables false
set_option maxRecDepth 100000
namespace Go.Zt
open Go Go.Sim Go.Proofs Go.RowKit
section
variable {U:Nat→Prop} {M N:Mem} {jc jd jt k e:Nat} {d:Dv}
def deltaD (d:Dv) (e:Nat) (v:Int):Dv × Nat × Int:=
  if (flagD d e (v != 0)).2.2=false∨(flagD d e (v != 0)).2.1≠0 then ((flagD d e (v != 0)).1,(flagD d e (v != 0)).2.1,v) else
  match (flagD d e (v != 0)).1 with
  | .w l=>(.w (wSigned l (IntKind.i32.wrap v) 5).2,(wSigned l (IntKind.i32.wrap v) 5).1,v)
  | .r b p=>(.r b (rSigned b p 5).2.2,if (rSigned b p 5).2.1=0∧(rSigned b p 5).1=0 then 4 else (rSigned b p 5).2.1,(rSigned b p 5).1)
theorem wSigned_len (l:List Nat) (v:Int):(wSigned l v 5).2.length≤l.length+6:=by
  unfold wSigned
  split
  · simp
  · simp [bitsN_len]
theorem rSigned_b (b:List Nat) (p:Nat) : -32≤(rSigned b p 5).1∧(rSigned b p 5).1≤32:=by
  have h:=numb_lt (bitOf_lt b) (p+1) (5:Int).toNat
  have e5:(5:Int).toNat=5:=rfl
  rw [e5] at h
  unfold rSigned
  rw [e5]
  split
  · show (-32:Int)≤0∧(0:Int)≤32; omega
  · split
    · show (-32:Int)≤0∧(0:Int)≤32; omega
    · split
      · split
        · show (-32:Int)≤0∧(0:Int)≤32; omega
        · show (-32:Int) ≤ -_ ∧ -_≤(32:Int); omega
      · show (-32:Int)≤_∧_≤(32:Int); omega
theorem numD_kind {d:Dv} {e:Nat} {v n f:Int}:(∀ l,d=.w l→∃ l',(numD d e v n f).1=.w l')∧(∀ b p,d=.r b p→∃ p',(numD d e v n f).1=.r b p'):=by
  unfold numD
  split
  · exact ⟨fun l h=>⟨l,h⟩,fun b p h=>⟨p,h⟩⟩
  · cases d with
    | w l=>exact ⟨fun l' _=>⟨_,rfl⟩,fun b p h=>(by cases h)⟩
    | r b p=>exact ⟨fun l h=>(by cases h),fun b' p' h=>(by cases h; exact ⟨_,rfl⟩)⟩
theorem c75 {cs:Array Value} {t:TypeId} {o:Nat} {v:Int} (h:St U M jc jd d e (k+2)) (a:M.nb[jt]?=some (.cells cs t)) (hf:M.floor≤jt) (n1:jt≠jd) (n2:jt≠jc) (n3:¬ U jt) (hv:cs[o]?=some (.int .i64 v)):
    Cn Try.prog 75 #[PtrB jc,.pointer (some ⟨2*jt,o,none⟩)] M fun u N=>u=.tuple #[]∧∃ U',Ext (fun i=>i=jc∨i=jd∨i=jt) U M U' N∧St U' N jc jd (deltaD d e v).1 (deltaD d e v).2.1 k∧N.nb[jt]?=some (.cells (cs.setIfInBounds o (.int .i64 (deltaD d e v).2.2)) t)∧¬ U' jt:=by
  have hjt:=lt_of_at a
  have hjd:=h.dev.lt
  have hjc:=lt_of_at h.cod
  have ho:=(Array.getElem?_eq_some_iff.1 hv).1
  refine w75_0 (ad rfl (on (int_of a hv) ?_))
  have q0:=Mem.new_at M (.cells #[.bool false] 4)
  have K0:Keep M (M.new (.cells #[.bool false] 4)):=.new _ _
  generalize M.new (.cells #[.bool false] 4)=M0 at q0 K0 ⊢
  have f0:M0.floor≤M.nb.size:=by rw [K0.floor]; exact h.fs
  obtain ⟨M1,p1,C1,s1,u1⟩:=put1 0 (.bool (v != 0)) q0 f0 (by simp) rfl
  have K1:Keep M M1:=Keep.step K0 C1 fun i hi=>by omega
  have nU:¬ U M.nb.size:=fun hu=>by have:=h.ub _ hu; omega
  refine pt p1 (Cn.mono (c73 (h.keep K1) u1 (by rw [K1.floor]; exact h.fs) (by omega) (by omega) nU (b:=v != 0) rfl) ?_)
  rintro _ N4 ⟨_,U4,E4,S4,u4,nu4⟩
  have E4':Ext (fun i=>i=jc∨i=jd∨i=jt) U M U4 N4:=by
    refine ⟨fun i hi=>(E4.sub i hi).imp id fun q=>Nat.le_trans K1.size q,⟨E4.chg.base.trans K1.base,E4.chg.floor.trans K1.floor,Nat.le_trans K1.size E4.chg.size,fun j hj hs=>?_⟩⟩
    exact (E4.chg.same j (Nat.lt_of_lt_of_le hj K1.size) fun hh=>hh.elim (fun q=>hs (.inl q)) fun q=>q.elim (fun q=>hs (.inr (.inl q))) fun q=>q.elim (fun q=>hs (.inr (.inr (.inl q)))) fun q=>by omega).trans (K1.same j hj fun x=>x)
  have at4:=E4.at (at_keep a K1) n3 fun hh=>by omega
  have ff:N4.floor≤jt:=by rw [E4'.chg.floor]; exact hf
  have done:((flagD d e (v != 0)).2.2=false∨(flagD d e (v != 0)).2.1≠0)→A75_1 (some ⟨2*jc,0,none⟩) (some ⟨2*jt,o,none⟩) true N4 fun u N=>u=.tuple #[]∧∃ U',Ext (fun i=>i=jc∨i=jd∨i=jt) U M U' N∧St U' N jc jd (deltaD d e v).1 (deltaD d e v).2.1 k∧N.nb[jt]?=some (.cells (cs.setIfInBounds o (.int .i64 (deltaD d e v).2.2)) t)∧¬ U' jt:=by
    intro hh
    have q:deltaD d e v=((flagD d e (v != 0)).1,(flagD d e (v != 0)).2.1,v):=by unfold deltaD; rw [if_pos hh]
    rw [q]
    exact w75_1 (cT rfl ⟨rfl,U4,E4',S4.mono (by omega),by rw [setSame hv]; exact at4.1,at4.2⟩)
  refine on (bool_of u4 rfl) (cnn (fun hb=>done (.inl hb)) fun hb=>ad rfl (on (int_of S4.cod rfl) ?_))
  by_cases he:(flagD d e (v != 0)).2.1≠0
  · rw [show (((flagD d e (v != 0)).2.1:Nat):Int) != 0 by simp; exact he]
    exact done (.inr he)
  have he:(flagD d e (v != 0)).2.1=0:=by omega
  rw [show ((((flagD d e (v != 0)).2.1:Nat):Int) != 0)=false by rw [he]; rfl]
  rw [he] at S4
  have q:deltaD d e v=match (flagD d e (v != 0)).1 with
  | .w l=>(.w (wSigned l (IntKind.i32.wrap v) 5).2,(wSigned l (IntKind.i32.wrap v) 5).1,v)
  | .r b p=>(.r b (rSigned b p 5).2.2,if (rSigned b p 5).2.1=0∧(rSigned b p 5).1=0 then 4 else (rSigned b p 5).2.1,(rSigned b p 5).1):=by
    unfold deltaD; rw [if_neg (by rw [hb,he]; simp)]
  rw [q]
  clear q done
  generalize (flagD d e (v != 0)).1=d1 at *
  cases d1 with
  | w l=>
    have hl:=S4.len
    refine w75_1 (cF rfl (ad rfl (on (ptr_of S4.cod rfl) (cT rfl (ad rfl (on (ptr_of S4.cod rfl) (ad rfl (on (int_of at4.1 hv) (Cn.mono (c43 S4.flw S4.dev (v:=IntKind.i32.wrap v) (by rw [IntKind.wrap_i32]; omega) 5 (by simp only [Dv.len] at hl; omega)) ?_)))))))))
    rintro _ N ⟨rfl,C,W⟩
    obtain ⟨N2,p,U',E,S⟩:=S4.wr C W (by have:=wSigned_len l (IntKind.i32.wrap v); omega) (wSigned l (IntKind.i32.wrap v) 5).1
    have:=E.at at4.1 at4.2 fun hh=>hh.elim n2 n1
    exact ty rfl (ad rfl (pt p ⟨rfl,U',E4'.trans (E.mono fun i _ hh=>hh.imp id .inl),S,by rw [setSame hv]; exact this.1,this.2⟩))
  | r b p=>
    refine w75_1 (cF rfl (ad rfl (on (ptr_of S4.cod rfl) (cF rfl (ad rfl (on (ptr_of S4.cod rfl) (Cn.mono (c82 S4.dev (S4.fl jd (.inr (.inl rfl))) 5) ?_)))))))
    rintro _ N ⟨rfl,C,s,R⟩
    have S5:St U4 N jc jd (.r b (rSigned b p 5).2.2) 0 (k+1):=⟨R,fun i hi=>by rw [C.floor]; exact S4.fl i hi,by rw [C.floor,s]; exact S4.fs,at_chg S4.cod C S4.cd,S4.nc,S4.cd,S4.len,by rw [s]; exact S4.ub⟩
    have a5:=at_chg at4.1 C n1
    obtain ⟨N2,p2,C2,s2,S6⟩:=S5.err (rSigned b p 5).2.1
    have a6:=at_chg a5 C2 n2
    have E6:Ext (fun i=>i=jc∨i=jd∨i=jt) U M U4 N2:=(E4'.trans (Ext.of C fun i _ hh=>.inr (.inr (.inl hh)))).trans (Ext.of C2 fun i _ hh=>.inr (.inl hh))
    have hr:=rSigned_b b p
    have fin:∀ {N2:Mem} (e':Nat),Ext (fun i=>i=jc∨i=jd∨i=jt) U M U4 N2→St U4 N2 jc jd (.r b (rSigned b p 5).2.2) e' (k+1)→N2.nb[jt]?=some (.cells cs t)→N2.floor≤jt→e'=(if (rSigned b p 5).2.1=0∧(rSigned b p 5).1=0 then 4 else (rSigned b p 5).2.1)→
        ptS (N2.put (2*jt) o (.int .i64 (IntKind.i64.wrap (rSigned b p 5).1))) fun M33=>Value.tuple #[]=.tuple #[]∧∃ U',Ext (fun i=>i=jc∨i=jd∨i=jt) U M U' M33∧St U' M33 jc jd (.r b (rSigned b p 5).2.2) (if (rSigned b p 5).2.1=0∧(rSigned b p 5).1=0 then 4 else (rSigned b p 5).2.1) k∧M33.nb[jt]?=some (.cells (cs.setIfInBounds o (.int .i64 (rSigned b p 5).1)) t)∧¬ U' jt:=by
      intro N2 e' E S a f he'
      rw [i64w (by omega)]
      obtain ⟨N3,p3,C3,s3,u3⟩:=put1 o (.int .i64 (rSigned b p 5).1) a f ho rfl
      refine pt p3 ⟨rfl,U4,E.trans (Ext.of C3 fun i _ hh=>.inr (.inr (.inr hh))),?_,u3,at4.2⟩
      rw [← he']
      exact (S.chg C3 fun i _ hu hh=>by
            subst hh
            rcases hu with hu | hu | hu
            · exact at4.2 hu
            · exact n1 hu
            · exact n2 hu).mono (by omega)
    have f6:N2.floor≤jt:=by rw [C2.floor,C.floor]; exact ff
    have bad:¬ ((rSigned b p 5).2.1=0∧(rSigned b p 5).1=0)→A75_2 (some ⟨2*jc,0,none⟩) (some ⟨2*jt,o,none⟩) (rSigned b p 5).1 false N2 fun u N=>u=.tuple #[]∧∃ U',Ext (fun i=>i=jc∨i=jd∨i=jt) U M U' N∧St U' N jc jd (.r b (rSigned b p 5).2.2) (if (rSigned b p 5).2.1=0∧(rSigned b p 5).1=0 then 4 else (rSigned b p 5).2.1) k∧N.nb[jt]?=some (.cells (cs.setIfInBounds o (.int .i64 (rSigned b p 5).1)) t)∧¬ U' jt:=fun hh=>
      w75_2 (cF rfl (ad rfl (fin _ E6 S6 a6 f6 (by rw [if_neg hh]))))
    refine ty rfl (ty rfl (ty rfl (ad rfl (pt p2 (ad rfl (on (int_of S6.cod rfl) (ce (fun h0=>?_) fun h0=>bad fun hh=>by omega)))))))
    by_cases hz:(rSigned b p 5).1=0
    · have hh:(rSigned b p 5).2.1=0∧(rSigned b p 5).1=0:=⟨by omega,hz⟩
      obtain ⟨N3,p3,C3,s3,S7⟩:=S6.err 4
      refine w75_2 (cT (by rw [hz]; rfl) (ad rfl (pt p3 (ad rfl (fin 4 (E6.trans (Ext.of C3 fun i _ hh=>.inr (.inl hh))) S7 (at_chg a6 C3 n2) (by rw [C3.floor]; exact f6) (by rw [if_pos hh]))))))
    · rw [show ((rSigned b p 5).1 == 0)=false by simpa using hz]
      exact bad fun hh=>hz hh.2
def logD (d:Dv) (e:Nat) (v s:Int):Dv × Nat × Int:=
  if (numD d e v 2 0).2.1=0∧logM (numD d e v 2 0).2.2 s=false then ((numD d e v 2 0).1,5,(numD d e v 2 0).2.2) else numD d e v 2 0
theorem c76 {cs:Array Value} {t:TypeId} {o:Nat} {v s:Int} (hs:16≤s∧s≤256) (h:St U M jc jd d e (k+1)) (a:M.nb[jt]?=some (.cells cs t)) (hf:M.floor≤jt) (n1:jt≠jd) (n2:jt≠jc) (n3:¬ U jt) (hv:cs[o]?=some (.int .i64 v)):
    Cn Try.prog 76 #[PtrB jc,.pointer (some ⟨2*jt,o,none⟩),.int .i64 s] M fun u N=>u=.tuple #[]∧∃ U',Ext (fun i=>i=jc∨i=jd∨i=jt) U M U' N∧St U' N jc jd (logD d e v s).1 (logD d e v s).2.1 k∧N.nb[jt]?=some (.cells (cs.setIfInBounds o (.int .i64 (logD d e v s).2.2)) t)∧¬ U' jt:=by
  have ho:=(Array.getElem?_eq_some_iff.1 hv).1
  refine w76_0 (Cn.mono (c74 h a hf n1 n2 n3 hv (by decide) (by decide)) ?_)
  rintro _ N ⟨_,U',E,S,a1,nu⟩
  have ok:¬ ((numD d e v 2 0).2.1=0∧logM (numD d e v 2 0).2.2 s=false)→A76_1 (some ⟨2*jc,0,none⟩) false N fun u N=>u=.tuple #[]∧∃ U',Ext (fun i=>i=jc∨i=jd∨i=jt) U M U' N∧St U' N jc jd (logD d e v s).1 (logD d e v s).2.1 k∧N.nb[jt]?=some (.cells (cs.setIfInBounds o (.int .i64 (logD d e v s).2.2)) t)∧¬ U' jt:=by
    intro hh
    have q:logD d e v s=numD d e v 2 0:=by unfold logD; rw [if_neg hh]
    rw [q]
    exact w76_1 (cF rfl ⟨rfl,U',E,S,a1,nu⟩)
  refine ad rfl (on (int_of S.cod rfl) (ce (fun h0=>ad rfl (on (int_of (i:=o) (x:=(numD d e v 2 0).2.2) a1 (by simp [ho])) (Cn.eq (c57 hs) (ty rfl ?_)))) fun h0=>ok fun hh=>by omega))
  cases hl:logM (numD d e v 2 0).2.2 s with
  | true=>exact ok fun hh=>by rw [hl] at hh; cases hh.2
  | false=>
    have q:logD d e v s=((numD d e v 2 0).1,5,(numD d e v 2 0).2.2):=by unfold logD; rw [if_pos ⟨by omega,hl⟩]
    rw [q]
    obtain ⟨N3,p3,C3,s3,S3⟩:=S.err 5
    exact w76_1 (cT rfl (ad rfl (pt p3 ⟨rfl,U',E.trans (Ext.of C3 fun i _ hh=>.inr (.inl hh)),S3,at_chg a1 C3 n2,nu⟩)))
end
end Go.Zt

/- Layer 20: the program's coding of filters. -/
set_option linter.unusedSimpArgs false
set_option linter.unusedVariables false
set_option maxRecDepth 100000
namespace Go.Zt
open Go Go.Sim Go.Proofs Go.RowKit
section
variable {U:Nat→Prop} {M N:Mem} {jc jd jh jx k e:Nat} {d:Dv} {h:Hd} {X:List Sg}
theorem c74o {l:List Nat} (hh:St U M jc jd (.w l) e (k+1)) {a:Addr} {v n f:Int} (hv:M.intAt .i64 a.block a.off=some v) (hn:n≤32):
    Cn Try.prog 74 #[PtrB jc,.pointer (some a),.int .i64 n,.int .i64 f] M fun u N=>u=.tuple #[]∧∃ U',Ext (fun i=>i=jc∨i=jd) U M U' N∧St U' N jc jd (numD (.w l) e v n f).1 (numD (.w l) e v n f).2.1 k:=by
  by_cases he:e≠0
  · have q:numD (.w l) e v n f=(.w l,e,v):=by unfold numD; rw [if_pos he]
    rw [q]
    refine Cn.mono (c74e hh he) ?_
    rintro _ N ⟨rfl,rfl⟩
    exact ⟨rfl,U,.refl,hh.mono (by omega)⟩
  · obtain rfl:e=0:=by omega
    exact c74w hh hv hn
def sg1 (d:Dv) (e:Nat) (x:Sg):Dv × Nat × Sg:=
  let r1:=numD d e x.a 4 0
  let r2:=numD r1.1 r1.2.1 x.b 2 0
  let r3:=numD r2.1 r2.2.1 x.c 4 0
  let r4:=numD r3.1 r3.2.1 x.d 2 0
  (r4.1,r4.2.1,⟨r1.2.2,r2.2.2,r3.2.2,r4.2.2⟩)
def sgsD (d:Dv) (e:Nat):List Sg→Dv × Nat × List Sg
  | []=>(d,e,[])
  | x::X=>((sgsD (sg1 d e x).1 (sg1 d e x).2.1 X).1,(sgsD (sg1 d e x).1 (sg1 d e x).2.1 X).2.1,(sg1 d e x).2.2::(sgsD (sg1 d e x).1 (sg1 d e x).2.1 X).2.2)
def Far (U:Nat→Prop) (jc jd jh:Nat) (M:Mem) (A:Option Addr):Prop:=∀ a,A=some a→a.block % 2=1∨(a.block / 2<M.nb.size∧¬ U (a.block / 2)∧a.block / 2≠jc∧a.block / 2≠jd∧a.block / 2≠jh)
theorem Far.ext {A:Option Addr} {U':Nat→Prop} {P:Nat→Prop} (hF:Far U jc jd jh M A) (E:Ext P U M U' N) (hP:∀ i,P i→i=jc∨i=jd∨i=jh):Far U' jc jd jh N A:=fun a ha=>
  (hF a ha).imp id fun ⟨q1,q2,q3,q4,q5⟩=>⟨Nat.lt_of_lt_of_le q1 E.chg.size,fun hu=>(E.sub _ hu).elim q2 fun q=>by omega,q3,q4,q5⟩
theorem Far.row {A:Option Addr} {U':Nat→Prop} {P:Nat→Prop} {L:List Value} (hF:Far U jc jd jh M A) (hR:Row M A L) (E:Ext P U M U' N) (hP:∀ i,P i→i=jc∨i=jd∨i=jh):Row N A L:=
  hR.chg E.chg fun a ha=>(hF a ha).imp id fun ⟨q1,q2,q3,q4,q5⟩=>fun hs=>hs.elim q2 fun hp=>by rcases hP _ hp with hp | hp | hp <;> omega
def Aft (U:Nat→Prop) (M:Mem) (jc jd jh:Nat) (h:Hd) (X:List Sg) (d:Dv) (e k:Nat) (U':Nat→Prop) (N:Mem):Prop:=
  Ext (fun i=>i=jc∨i=jd∨i=jh) U M U' N∧St U' N jc jd d e k∧¬ U' jh∧N.nb[jh]?=some (.cells h.cs 41)∧h.n=X.length∧Row N h.A (Sgs X)∧Far U' jc jd jh N h.A
theorem e78_5w {Q:Value→Mem→Prop} {l:List Nat} (nh:jh≠jc∧jh≠jd) (hb:h.n≤1048576) (hn:h.n=X.length):∀ (q i:Nat) {U:Nat→Prop} {M:Mem} {l:List Nat} {e:Nat} (k:Nat),i+q=h.n→St U M jc jd (.w l) e (k+4*q)→¬ U jh→
    M.nb[jh]?=some (.cells h.cs 41)→Row M h.A (Sgs X)→Far U jc jd jh M h.A→
    (∀ U' N l',(sgsD (.w l) e (X.drop i)).1=.w l'→Aft U M jc jd jh h X (.w l') (sgsD (.w l) e (X.drop i)).2.1 k U' N→A78_4 (some ⟨2*jc,0,none⟩) (some ⟨2*jh,0,none⟩) 0 N Q)→
    A78_5 (some ⟨2*jc,0,none⟩) (some ⟨2*jh,0,none⟩) (h.n:Int) (i:Int) M Q
  | 0,i,U,M,l,e,k,hi,S,nU,a,hR,hF,hQ=>by
    refine w78_5 (cF (decide_eq_false (by omega)) (hQ U M l ?_ ⟨.refl,?_,nU,a,hn,hR,hF⟩))
    · rw [List.drop_of_length_le (by omega)]; rfl
    · rw [List.drop_of_length_le (by omega)]; exact S
  | q+1,i,U,M,l,e,k,hi,S,nU,a,hR,hF,hQ=>by
    have hlt:i<X.length:=by omega
    have P2:∀ i,(i=jc∨i=jd)→i=jc∨i=jd∨i=jh:=fun i hi=>hi.imp id .inl
    have nP:¬ (jh=jc∨jh=jd):=fun hh=>hh.elim nh.1 nh.2
    have kind:∀ {l:List Nat} {e:Nat} {v n f:Int},∃ l',(numD (.w l) e v n f).1=.w l':=numD_kind.1 _ rfl
    have one:∀ {U1:Nat→Prop} {M1:Mem} {l1:List Nat} {e1 k1:Nat} {v:Int} {p:Addr} {n:Int} {K:Mem→Prop},n≤32→Ext (fun i=>i=jc∨i=jd) U M U1 M1→St U1 M1 jc jd (.w l1) e1 (k1+1)→M1.intAt .i64 p.block p.off=some v→
        (∀ U2 N l2,Ext (fun i=>i=jc∨i=jd) U M U2 N→(numD (.w l1) e1 v n 0).1=.w l2→St U2 N jc jd (.w l2) (numD (.w l1) e1 v n 0).2.1 k1→K N)→
        Cn Try.prog 74 #[PtrB jc,.pointer (some p),.int .i64 n,.int .i64 0] M1 fun _ N=>K N:=by
      intro U1 M1 l1 e1 k1 v p n K hn E1 S1 hv hK
      refine Cn.mono (c74o S1 hv hn) ?_
      rintro _ N ⟨_,U2,E2,S2⟩
      obtain ⟨l2,hl2⟩:=kind (l:=l1) (e:=e1) (v:=v) (n:=n) (f:=0)
      rw [hl2] at S2
      exact hK U2 N l2 (E1.trans E2) hl2 S2
    obtain ⟨p,g0,_,_,_,_⟩:=Sgs.elt hR (n:=h.n) (i:=i) (z:=(i:Int)) rfl (by omega) hlt
    have cells:∀ {U1:Nat→Prop} {M1:Mem},Ext (fun i=>i=jc∨i=jd) U M U1 M1→M1.intAt .i64 p.block p.off=some X[i].a∧M1.intAt .i64 p.block (p.off+1)=some X[i].b∧M1.intAt .i64 p.block (p.off+2)=some X[i].c∧M1.intAt .i64 p.block (p.off+3)=some X[i].d:=by
      intro U1 M1 E
      obtain ⟨p',g0',g⟩:=Sgs.elt (hF.row hR E P2) (n:=h.n) (i:=i) (z:=(i:Int)) rfl (by omega) hlt
      rw [g0] at g0'
      obtain rfl:=Option.some.inj g0'
      exact g
    have ed:sgsD (.w l) e (X.drop i)=sgsD (.w l) e (X[i]::X.drop (i+1)):=by rw [List.drop_eq_getElem_cons hlt]
    rw [ed] at hQ
    refine w78_5 (cT (decide_eq_true (by omega)) (ad rfl (on (sl_of a rfl) (ix g0 ?_))))
    refine one (by decide) .refl (k1:=k+4*q+3) (by rw [show k+4*q+3+1=k+4*(q+1) by omega]; exact S) (cells .refl).1 fun U2 N2 l2 E2 h2 S2=>?_
    refine one (by decide) E2 (k1:=k+4*q+2) S2 (cells E2).2.1 fun U3 N3 l3 E3 h3 S3=>?_
    refine one (by decide) E3 (k1:=k+4*q+1) S3 (cells E3).2.2.1 fun U4 N4 l4 E4 h4 S4=>?_
    refine one (by decide) E4 (k1:=k+4*q) S4 (cells E4).2.2.2 fun U5 N5 l5 E5 h5 S5=>?_
    have s1:sg1 (.w l) e X[i]=(.w l5,(numD (.w l4) (numD (.w l3) (numD (.w l2) (numD (.w l) e X[i].a 4 0).2.1 X[i].b 2 0).2.1 X[i].c 4 0).2.1 X[i].d 2 0).2.1,(sg1 (.w l) e X[i]).2.2):=by
      unfold sg1
      simp only [h2,h3,h4,h5]
    have t1:(sg1 (.w l) e X[i]).1=.w l5:=by rw [s1]
    have t2:(sg1 (.w l) e X[i]).2.1=(numD (.w l4) (numD (.w l3) (numD (.w l2) (numD (.w l) e X[i].a 4 0).2.1 X[i].b 2 0).2.1 X[i].c 4 0).2.1 X[i].d 2 0).2.1:=by rw [s1]
    rw [i64w (by omega)]
    have a5:=E5.at a nU nP
    refine e78_5w (l:=l5) nh hb hn q (i+1) k (by omega) S5 a5.2 a5.1 (hF.row hR E5 P2) (hF.ext E5 P2) fun U' N l' hl' H=>?_
    simp only [sgsD,t1,t2] at hQ
    exact hQ U' N l' hl' ⟨(E5.mono fun i _ hi=>P2 i hi).trans H.1,H.2⟩
end
end Go.Zt

/- Layer 20: the program's coding of strengths that are read; of fields. -/
set_option linter.unusedSimpArgs false
set_option linter.unusedVariables false
set_option maxRecDepth 100000
namespace Go.Zt
open Go Go.Sim Go.Proofs Go.RowKit
theorem Sgs_set:∀ (X:List Sg) (i:Nat) (h:i<X.length) (o:Nat) (ho:o<4) (x':Sg) (v:Value),x'.cells=(X[i]).cells.set o v→(Sgs X).set (i*4+o) v=Sgs (X.set i x')
  | [],i,h,_,_,_,_,_=>by simp at h
  | x::X,0,h,o,ho,x',v,e=>by
    simp only [Sgs,List.flatMap_cons,Nat.zero_mul,Nat.zero_add,List.set_cons_zero]
    rw [List.set_append_left _ _ (by simpa using ho),e]; rfl
  | x::X,i+1,h,o,ho,x',v,e=>by
    simp only [Sgs,List.flatMap_cons,List.set_cons_succ]
    rw [List.set_append_right _ _ (by simp; omega)]
    congr 1
    rw [show (i+1)*4+o - (x.cells).length=i*4+o by simp; omega]
    exact Sgs_set X i (by simpa using h) o ho x' v e
section
variable {U:Nat→Prop} {M N:Mem} {jc jd jh jx k e:Nat} {d:Dv} {h:Hd} {X:List Sg}
theorem Sgs_arr {i o:Nat} (hi:i<X.length) (ho:o<4):(Sgs X).toArray[i*4+o]?=(X[i]).cells[o]?:=by
  rw [List.getElem?_toArray]; exact Sgs_at hi o ho
theorem Sgs_aset {i o:Nat} (hi:i<X.length) (ho:o<4) {x':Sg} {v:Value} (e:x'.cells=(X[i]).cells.set o v):(Sgs X).toArray.setIfInBounds (i*4+o) v=(Sgs (X.set i x')).toArray:=by
  rw [List.setIfInBounds_toArray,Sgs_set X i hi o ho x' v e]
theorem one4 {Q:Mem→Prop} {i:Nat} (hi:i<X.length) (S:St U M jc jd d e (k+4)) (a:M.nb[jx]?=some (.cells (Sgs X).toArray 96)) (hf:M.floor≤jx) (n1:jx≠jd) (n2:jx≠jc) (n3:¬ U jx)
    (K:∀ U' N,Ext (fun i=>i=jc∨i=jd∨i=jx) U M U' N→St U' N jc jd (sg1 d e X[i]).1 (sg1 d e X[i]).2.1 k→N.nb[jx]?=some (.cells (Sgs (X.set i (sg1 d e X[i]).2.2)).toArray 96)→¬ U' jx→Q N):
    Cn Try.prog 74 #[PtrB jc,.pointer (some ⟨2*jx,i*4+0,none⟩),.int .i64 4,.int .i64 0] M fun _ N1=>Cn Try.prog 74 #[PtrB jc,.pointer (some ⟨2*jx,i*4+1,none⟩),.int .i64 2,.int .i64 0] N1 fun _ N2=>
      Cn Try.prog 74 #[PtrB jc,.pointer (some ⟨2*jx,i*4+2,none⟩),.int .i64 4,.int .i64 0] N2 fun _ N3=>Cn Try.prog 74 #[PtrB jc,.pointer (some ⟨2*jx,i*4+3,none⟩),.int .i64 2,.int .i64 0] N3 fun _ N4=>Q N4:=by
  have hl:∀ (Y:List Sg) (x:Sg),Y.length=X.length→i<(Y.set i x).length:=fun Y x hY=>by simp [hY]; exact hi
  have get:∀ (Y:List Sg) (x:Sg) (hY:i<(Y.set i x).length),(Y.set i x)[i]=x:=fun Y x hY=>by simp
  refine Cn.mono (c74 S a hf n1 n2 n3 (o:=i*4+0) (v:=X[i].a) (by rw [Sgs_arr hi (by decide)]; rfl) (by decide) (by decide)) ?_
  rintro _ N1 ⟨_,U1,E1,S1,a1,nu1⟩
  rw [Sgs_aset (x':=⟨(numD d e X[i].a 4 0).2.2,X[i].b,X[i].c,X[i].d⟩) hi (by decide) rfl] at a1
  generalize hx1:(⟨(numD d e X[i].a 4 0).2.2,X[i].b,X[i].c,X[i].d⟩:Sg)=x1 at a1
  have f1:N1.floor≤jx:=by rw [E1.chg.floor]; exact hf
  have i1:=hl X x1 rfl
  refine Cn.mono (c74 S1 a1 f1 n1 n2 nu1 (o:=i*4+1) (v:=X[i].b) (by rw [Sgs_arr i1 (by decide),get,← hx1]; rfl) (by decide) (by decide)) ?_
  rintro _ N2 ⟨_,U2,E2,S2,a2,nu2⟩
  rw [Sgs_aset (x':=⟨x1.a,(numD (numD d e X[i].a 4 0).1 (numD d e X[i].a 4 0).2.1 X[i].b 2 0).2.2,X[i].c,X[i].d⟩) i1 (by decide) (by rw [get,← hx1]; rfl),List.set_set] at a2
  generalize hx2:(⟨x1.a,(numD (numD d e X[i].a 4 0).1 (numD d e X[i].a 4 0).2.1 X[i].b 2 0).2.2,X[i].c,X[i].d⟩:Sg)=x2 at a2
  have f2:N2.floor≤jx:=by rw [E2.chg.floor]; exact f1
  have i2:=hl X x2 rfl
  refine Cn.mono (c74 S2 a2 f2 n1 n2 nu2 (o:=i*4+2) (v:=X[i].c) (by rw [Sgs_arr i2 (by decide),get,← hx2]; rfl) (by decide) (by decide)) ?_
  rintro _ N3 ⟨_,U3,E3,S3,a3,nu3⟩
  generalize hr2:numD (numD d e X[i].a 4 0).1 (numD d e X[i].a 4 0).2.1 X[i].b 2 0=r2 at *
  rw [Sgs_aset (x':=⟨x1.a,x2.b,(numD r2.1 r2.2.1 X[i].c 4 0).2.2,X[i].d⟩) i2 (by decide) (by rw [get,← hx2]; rfl),List.set_set] at a3
  generalize hx3:(⟨x1.a,x2.b,(numD r2.1 r2.2.1 X[i].c 4 0).2.2,X[i].d⟩:Sg)=x3 at a3
  have f3:N3.floor≤jx:=by rw [E3.chg.floor]; exact f2
  have i3:=hl X x3 rfl
  refine Cn.mono (c74 S3 a3 f3 n1 n2 nu3 (o:=i*4+3) (v:=X[i].d) (by rw [Sgs_arr i3 (by decide),get,← hx3]; rfl) (by decide) (by decide)) ?_
  rintro _ N4 ⟨_,U4,E4,S4,a4,nu4⟩
  generalize hr3:numD r2.1 r2.2.1 X[i].c 4 0=r3 at *
  rw [Sgs_aset (x':=⟨x1.a,x2.b,x3.c,(numD r3.1 r3.2.1 X[i].d 2 0).2.2⟩) i3 (by decide) (by rw [get,← hx3]; rfl),List.set_set] at a4
  have e1:sg1 d e X[i]=((numD r3.1 r3.2.1 X[i].d 2 0).1,(numD r3.1 r3.2.1 X[i].d 2 0).2.1,⟨x1.a,x2.b,x3.c,(numD r3.1 r3.2.1 X[i].d 2 0).2.2⟩):=by
    subst hx3 hx2 hx1
    unfold sg1
    simp only [hr2,hr3]
  refine K U4 N4 (((E1.trans E2).trans E3).trans E4) ?_ ?_ nu4
  · rw [e1]; exact S4
  · rw [e1]; exact a4
theorem e78_5r {Q:Value→Mem→Prop} (nh:jh≠jc∧jh≠jd) (nx:jx≠jd∧jx≠jc∧jx≠jh) (hA:h.A=some ⟨2*jx,0,none⟩) (hb:h.n≤1048576):∀ (q i:Nat) {U:Nat→Prop} {M:Mem} {d:Dv} {e:Nat} {X:List Sg} (k:Nat),i+q=h.n→h.n=X.length→St U M jc jd d e (k+4*q)→¬ U jh→¬ U jx→
    M.nb[jh]?=some (.cells h.cs 41)→M.nb[jx]?=some (.cells (Sgs X).toArray 96)→M.floor≤jx→
    (∀ U' N X',X'=X.take i ++ (sgsD d e (X.drop i)).2.2→Ext (fun i=>i=jc∨i=jd∨i=jx) U M U' N→St U' N jc jd (sgsD d e (X.drop i)).1 (sgsD d e (X.drop i)).2.1 k→¬ U' jh→¬ U' jx→N.nb[jh]?=some (.cells h.cs 41)→N.nb[jx]?=some (.cells (Sgs X').toArray 96)→h.n=X'.length→
      A78_4 (some ⟨2*jc,0,none⟩) (some ⟨2*jh,0,none⟩) 0 N Q)→
    A78_5 (some ⟨2*jc,0,none⟩) (some ⟨2*jh,0,none⟩) (h.n:Int) (i:Int) M Q
  | 0,i,U,M,d,e,X,k,hi,hn,S,nU,nX,a,ax,hf,hQ=>by
    have e1:X.drop i=[]:=List.drop_of_length_le (by omega)
    rw [e1] at hQ
    exact w78_5 (cF (decide_eq_false (by omega)) (hQ U M X (by rw [List.take_of_length_le (by omega)]; simp [sgsD]) .refl S nU nX a ax hn))
  | q+1,i,U,M,d,e,X,k,hi,hn,S,nU,nX,a,ax,hf,hQ=>by
    have hlt:i<X.length:=by omega
    have g0:idxA h.A h.n 4 (i:Int)=some ⟨2*jx,0+i*4,none⟩:=by
      unfold idxA; rw [if_pos ⟨by omega,by omega⟩,hA]; rfl
    refine w78_5 (cT (decide_eq_true (by omega)) (ad rfl (on (sl_of a rfl) (ix g0 ?_))))
    have key:=one4 (Q:=fun N=>A78_5 (some ⟨2*jc,0,none⟩) (some ⟨2*jh,0,none⟩) (h.n:Int) (IntKind.i64.wrap ((i:Int)+1)) N Q) (k:=k+4*q) hlt (by rw [show k+4*q+4=k+4*(q+1) by omega]; exact S) ax hf nx.1 nx.2.1 nX fun U' N E S' ax' nX'=>by
      have ah:=E.at a nU fun hh=>by omega
      rw [i64w (by omega)]
      refine e78_5r (X:=X.set i (sg1 d e X[i]).2.2) nh nx hA hb q (i+1) k (by omega) (by simp; exact hn) S' ah.2 nX' ah.1 ax' (by rw [E.chg.floor]; exact hf) fun U2 N2 X2 hX2 E2 S2 nU2 nX2 ah2 ax2 hn2=>?_
      have e1:(X.set i (sg1 d e X[i]).2.2).drop (i+1)=X.drop (i+1):=List.drop_set_of_lt (by omega)
      rw [e1] at hX2 S2
      have e2:X.drop i=X[i]::X.drop (i+1):=List.drop_eq_getElem_cons hlt
      rw [e2] at hQ
      refine hQ U2 N2 X2 ?_ (E.trans E2) S2 nU2 nX2 ah2 ax2 hn2
      rw [hX2,List.take_succ_eq_append_getElem (by simp; exact hlt)]
      simp [sgsD,List.take_set_of_le]
    rw [Nat.zero_add]
    exact key
abbrev Cd:=Dv × Nat × Hd
def nF (c:Cd) (v:Int) (s:Int→Hd) (n f:Int):Cd:=((numD c.1 c.2.1 v n f).1,(numD c.1 c.2.1 v n f).2.1,s (numD c.1 c.2.1 v n f).2.2)
def fF (c:Cd) (v:Bool) (s:Bool→Hd):Cd:=((flagD c.1 c.2.1 v).1,(flagD c.1 c.2.1 v).2.1,s (flagD c.1 c.2.1 v).2.2)
def dF' (c:Cd) (v:Int) (s:Int→Hd):Cd:=((deltaD c.1 c.2.1 v).1,(deltaD c.1 c.2.1 v).2.1,s (deltaD c.1 c.2.1 v).2.2)
def gF (c:Cd) (v:Int) (s:Int→Hd) (z:Int):Cd:=((logD c.1 c.2.1 v z).1,(logD c.1 c.2.1 v z).2.1,s (logD c.1 c.2.1 v z).2.2)
structure Hm (U:Nat→Prop) (M:Mem) (jc jd jh:Nat) (c:Cd) (k:Nat):Prop where
  st:St U M jc jd c.1 c.2.1 k
  hd:M.nb[jh]?=some (.cells c.2.2.cs 41)
  nu:¬ U jh
  n1:jh≠jd
  n2:jh≠jc
  fl:M.floor≤jh
abbrev Pj (jc jd jh:Nat):Nat→Prop:=fun i=>i=jc∨i=jd∨i=jh
section
variable {U0:Nat→Prop} {M0:Mem} {c:Cd} {o:Nat} {Q:Mem→Prop}
theorem nK (E:Ext (Pj jc jd jh) U0 M0 U M) (H:Hm U M jc jd jh c (k+1)) {v n f:Int} (hv:c.2.2.cs[o]?=some (.int .i64 v)) (hn:n≤32) (hf:0≤f∧f≤3) (s:Int→Hd) (hs:∀ x,(s x).cs=c.2.2.cs.setIfInBounds o (.int .i64 x))
    (K:∀ U' N c',c'=nF c v s n f→Ext (Pj jc jd jh) U0 M0 U' N→Hm U' N jc jd jh c' k→Q N):Cn Try.prog 74 #[PtrB jc,.pointer (some ⟨2*jh,o,none⟩),.int .i64 n,.int .i64 f] M fun _ N=>Q N:=by
  refine Cn.mono (c74 H.st H.hd H.fl H.n1 H.n2 H.nu hv hn hf) ?_
  rintro _ N ⟨_,U',E',S',a',nu'⟩
  refine K U' N _ rfl (E.trans E') ⟨S',?_,nu',H.n1,H.n2,by rw [E'.chg.floor]; exact H.fl⟩
  rw [a']; exact congrArg (fun x=>some (Blk.cells x 41)) (hs _).symm
theorem fK (E:Ext (Pj jc jd jh) U0 M0 U M) (H:Hm U M jc jd jh c (k+1)) {v:Bool} (hv:c.2.2.cs[o]?=some (.bool v)) (s:Bool→Hd) (hs:∀ x,(s x).cs=c.2.2.cs.setIfInBounds o (.bool x))
    (K:∀ U' N c',c'=fF c v s→Ext (Pj jc jd jh) U0 M0 U' N→Hm U' N jc jd jh c' k→Q N):Cn Try.prog 73 #[PtrB jc,.pointer (some ⟨2*jh,o,none⟩)] M fun _ N=>Q N:=by
  refine Cn.mono (c73 H.st H.hd H.fl H.n1 H.n2 H.nu hv) ?_
  rintro _ N ⟨_,U',E',S',a',nu'⟩
  refine K U' N _ rfl (E.trans E') ⟨S',?_,nu',H.n1,H.n2,by rw [E'.chg.floor]; exact H.fl⟩
  rw [a']; exact congrArg (fun x=>some (Blk.cells x 41)) (hs _).symm
theorem dK (E:Ext (Pj jc jd jh) U0 M0 U M) (H:Hm U M jc jd jh c (k+2)) {v:Int} (hv:c.2.2.cs[o]?=some (.int .i64 v)) (s:Int→Hd) (hs:∀ x,(s x).cs=c.2.2.cs.setIfInBounds o (.int .i64 x))
    (K:∀ U' N c',c'=dF' c v s→Ext (Pj jc jd jh) U0 M0 U' N→Hm U' N jc jd jh c' k→Q N):Cn Try.prog 75 #[PtrB jc,.pointer (some ⟨2*jh,o,none⟩)] M fun _ N=>Q N:=by
  refine Cn.mono (c75 H.st H.hd H.fl H.n1 H.n2 H.nu hv) ?_
  rintro _ N ⟨_,U',E',S',a',nu'⟩
  refine K U' N _ rfl (E.trans E') ⟨S',?_,nu',H.n1,H.n2,by rw [E'.chg.floor]; exact H.fl⟩
  rw [a']; exact congrArg (fun x=>some (Blk.cells x 41)) (hs _).symm
theorem gK (E:Ext (Pj jc jd jh) U0 M0 U M) (H:Hm U M jc jd jh c (k+1)) {v z:Int} (hz:16≤z∧z≤256) (hv:c.2.2.cs[o]?=some (.int .i64 v)) (s:Int→Hd) (hs:∀ x,(s x).cs=c.2.2.cs.setIfInBounds o (.int .i64 x))
    (K:∀ U' N c',c'=gF c v s z→Ext (Pj jc jd jh) U0 M0 U' N→Hm U' N jc jd jh c' k→Q N):Cn Try.prog 76 #[PtrB jc,.pointer (some ⟨2*jh,o,none⟩),.int .i64 z] M fun _ N=>Q N:=by
  refine Cn.mono (c76 hz H.st H.hd H.fl H.n1 H.n2 H.nu hv) ?_
  rintro _ N ⟨_,U',E',S',a',nu'⟩
  refine K U' N _ rfl (E.trans E') ⟨S',?_,nu',H.n1,H.n2,by rw [E'.chg.floor]; exact H.fl⟩
  rw [a']; exact congrArg (fun x=>some (Blk.cells x 41)) (hs _).symm
end
end
end Go.Zt
