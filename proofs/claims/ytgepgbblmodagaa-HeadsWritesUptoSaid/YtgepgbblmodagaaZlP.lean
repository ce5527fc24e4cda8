/- Layer 20: the document's checks, first part: squares, Lossless, Same. Printed by genP.py. -/
import Derived.Test.YtgepgbblmodagaaZlO
import Derived.Test.YtgepgbblmodagaaZlC
set_option linter.unusedSimpArgs false
set_option linter.unusedVariables false
set_option maxRecDepth 100000
namespace Go.Zt
open Go Go.Sim Go.Proofs Go.RowKit
theorem c59 {s : Int} {M : Mem} (hs : 16 ≤ s ∧ s ≤ 256) : Cn Try.prog 59 #[.int .i64 s] M fun v N => v = .int .i64 ((s + 63) / 64) ∧ N = M :=
  w59_0 ⟨by rw [i64w (x := s + 63) (by omega), Int.tdiv_eq_ediv_of_nonneg (by omega), i64w (by omega)], rfl⟩
theorem c54 {h : Hd} {M : Mem} : Cn Try.prog 54 #[.agg h.cs] M (BK M h.less) := by
  have a := Mem.new_at M (.cells h.cs 41)
  have K : Keep M (M.new (.cells h.cs 41)) := .new _ _
  refine w54_0 ?_
  generalize M.new (.cells h.cs 41) = N at a K ⊢
  refine on (int_of a rfl) (ce (fun e => on (int_of a rfl) (on (int_of a rfl) (on (int_of a rfl) (on (int_of a rfl) (on (int_of a rfl) (pu (eq36 ..).1 (ty rfl ⟨?_, K⟩))))))) fun e => ⟨bF fun hh => e hh.1, K⟩)
  unfold Hd.less; congr 1; rw [decide_eq_decide]; exact ⟨fun hh => ⟨e, hh⟩, fun hh => hh.2⟩
theorem nx1 {x y : Int} {s r b : Bool} (hr : r = (!b && ((x == y) && s))) (hb : b = false) : r = (!(x != y) && s) := by subst hb; rw [hr]; simp [bne]
theorem nx2 {x s r b : Bool} (hr : r = (!b && (x && s))) (hb : b = false) : r = (!(!x) && s) := by subst hb; rw [hr]; simp
theorem nx3 {s r b s' : Bool} (hr : r = (!b && s)) (hb : b = true) : r = (!true && s') := by subst hb; rw [hr]; rfl
theorem nx4 {s r b : Bool} (hr : r = (!b && s)) (hb : b = true) : r = false := by subst hb; rw [hr]; rfl
section
variable (h g : Hd) (X Y : List Sg)
def sm17 : Bool := decide (X = Y)
def sm16 : Bool := ((h.n : Int) == (g.n : Int)) && sm17 X Y
def sm15 : Bool := decide (h.x0 = g.x0 ∧ h.x1 = g.x1 ∧ h.x2 = g.x2) && sm16 h g X Y
def sm14 : Bool := (h.cb == g.cb) && sm15 h g X Y
def sm13 : Bool := (h.da == g.da) && sm14 h g X Y
def sm12 : Bool := (h.cd == g.cd) && sm13 h g X Y
def sm11 : Bool := decide (h.l0 = g.l0 ∧ h.l1 = g.l1 ∧ h.l2 = g.l2 ∧ h.l3 = g.l3) && ((h.sp == g.sp) && sm12 h g X Y)
def sm10 : Bool := (h.na == g.na) && sm11 h g X Y
def sm9 : Bool := (h.ro == g.ro) && sm10 h g X Y
def sm8 : Bool := (h.co == g.co) && sm9 h g X Y
def sm7 : Bool := decide (h.d0 = g.d0 ∧ h.d1 = g.d1 ∧ h.d2 = g.d2 ∧ h.d3 = g.d3 ∧ h.d4 = g.d4) && sm8 h g X Y
def sm6 : Bool := (h.ba == g.ba) && sm7 h g X Y
def sm5 : Bool := (h.pr == g.pr) && sm6 h g X Y
def sm4 : Bool := decide (h.r0 = g.r0 ∧ h.r1 = g.r1 ∧ h.r2 = g.r2) && sm5 h g X Y
def sm3 : Bool := (h.rf == g.rf) && sm4 h g X Y
def sm2 : Bool := (h.ke == g.ke) && sm3 h g X Y
def sm1 : Bool := (h.sh == g.sh) && sm2 h g X Y
def Hd.same (h : Hd) (X : List Sg) (g : Hd) (Y : List Sg) : Bool := (h.ex == g.ex) && ((h.sl == g.sl) && sm1 h g X Y)
end
section
variable {h g : Hd} {X Y : List Sg} {M0 M : Mem} {j i : Nat}
theorem e30_18 (K : Keep M0 M) (a : M.nb[j]? = some (.cells h.cs 41)) (a' : M.nb[i]? = some (.cells g.cs 41)) (hn : h.n = X.length) (hm : g.n = Y.length) (hb : h.n ≤ 1048576) (hR : Row M h.A (Sgs X)) (hR' : Row M g.A (Sgs Y)) (hl : X.length = Y.length) {r : Bool} :
    ∀ (k q : Nat), q + k = h.n → (r = decide (X.drop q = Y.drop q)) → A30_18 (some ⟨2 * j, 0, none⟩) (some ⟨2 * i, 0, none⟩) (q : Int) M (BK M0 r)
  | 0, q, hq, hr => w30_18 (ad rfl (on (sl_of a rfl) (cd (fun h' => by have : (q : Int) < (h.n : Int) := h'; omega) fun _ => ⟨by rw [hr, List.drop_of_length_le (by omega), List.drop_of_length_le (by omega)]; rfl, K⟩)))
  | k + 1, q, hq, hr => by
    have h1 : q < X.length := by omega
    have h2 : q < Y.length := by omega
    obtain ⟨p, g0, g1, g2, g3, g4⟩ := Sgs.elt hR (n := h.n) (i := q) (z := (q : Int)) rfl (by omega) h1
    obtain ⟨p', g0', g1', g2', g3', g4'⟩ := Sgs.elt hR' (n := g.n) (i := q) (z := (q : Int)) rfl (by omega) h2
    have ee : X[q] = Y[q] ↔ (X[q].a = Y[q].a ∧ X[q].b = Y[q].b ∧ X[q].c = Y[q].c ∧ X[q].d = Y[q].d) := by
      generalize X[q] = x; generalize Y[q] = y
      cases x; cases y; simp
    rw [List.drop_eq_getElem_cons h1, List.drop_eq_getElem_cons h2] at hr
    refine w30_18 (ad rfl (on (sl_of a rfl) (cT (decide_eq_true (show (q : Int) < (h.n : Int) by omega)) (ad rfl (on (sl_of a rfl) (ix g0 (on g1 (on g2 (on g3 (on g4 (ad rfl (on (sl_of a' rfl) (ix g0' (on g1' (on g2' (on g3' (on g4' (pu (eq96 ..).2 (ty rfl (cnn (fun hd => ⟨?_, K⟩) fun hd => ?_))))))))))))))))))))
    · rw [hr]; exact bF fun e => dF hd (ee.1 (List.cons.inj e).1)
    · rw [i64w (by omega)]
      refine e30_18 K a a' hn hm hb hR hR' hl k (q + 1) (by omega) ?_
      rw [hr, decide_eq_decide]
      exact ⟨fun e => (List.cons.inj e).2, fun e => by rw [ee.2 (dT hd), e]⟩
theorem e30_17 (K : Keep M0 M) (a : M.nb[j]? = some (.cells h.cs 41)) (a' : M.nb[i]? = some (.cells g.cs 41)) (hn : h.n = X.length) (hm : g.n = Y.length) (hb : h.n ≤ 1048576) (hR : Row M h.A (Sgs X)) (hR' : Row M g.A (Sgs Y)) (hl : X.length = Y.length) {b r : Bool} (hr : r = (!b && sm17 X Y)) : A30_17 (some ⟨2 * j, 0, none⟩) (some ⟨2 * i, 0, none⟩) b M (BK M0 r) := by
  exact w30_17 (cn (fun hb' => ⟨by rw [nx4 hr hb'], K⟩) fun hb' => e30_18 K a a' hn hm hb hR hR' hl h.n 0 (by omega) (by subst hb'; rw [hr]; rfl))
theorem e30_16 (K : Keep M0 M) (a : M.nb[j]? = some (.cells h.cs 41)) (a' : M.nb[i]? = some (.cells g.cs 41)) (hn : h.n = X.length) (hm : g.n = Y.length) (hb : h.n ≤ 1048576) (hR : Row M h.A (Sgs X)) (hR' : Row M g.A (Sgs Y)) {b r : Bool} (hr : r = (!b && sm16 h g X Y)) : A30_16 (some ⟨2 * j, 0, none⟩) (some ⟨2 * i, 0, none⟩) b M (BK M0 r) := by
  refine w30_16 (cn (fun hb' => w30_17 (cT rfl ⟨by rw [nx4 hr hb'], K⟩)) fun hb' => ad rfl (on (sl_of a rfl) (ad rfl (on (sl_of a' rfl) ?_))))
  have q : r = (!((h.n : Int) != (g.n : Int)) && sm17 X Y) := nx1 hr hb'
  by_cases hl : X.length = Y.length
  · exact e30_17 K a a' hn hm hb hR hR' hl q
  · have e : ((h.n : Int) != (g.n : Int)) = true := by rw [hn, hm]; simp; omega
    exact w30_17 (cT e ⟨by rw [nx4 q e], K⟩)
theorem e30_15 (K : Keep M0 M) (a : M.nb[j]? = some (.cells h.cs 41)) (a' : M.nb[i]? = some (.cells g.cs 41)) (hn : h.n = X.length) (hm : g.n = Y.length) (hb : h.n ≤ 1048576) (hR : Row M h.A (Sgs X)) (hR' : Row M g.A (Sgs Y)) {b r : Bool} (hr : r = (!b && sm15 h g X Y)) : A30_15 (some ⟨2 * j, 0, none⟩) (some ⟨2 * i, 0, none⟩) b M (BK M0 r) := by
  exact w30_15 (cn (fun hb' => e30_16 K a a' hn hm hb hR hR' (nx3 hr hb')) fun hb' => ad rfl (on (bool_of a rfl) (on (bool_of a rfl) (on (bool_of a rfl) (ad rfl (on (bool_of a' rfl) (on (bool_of a' rfl) (on (bool_of a' rfl) (pu (eq39 ..).2 (ty rfl (e30_16 K a a' hn hm hb hR hR' (nx2 hr hb'))))))))))))
theorem e30_14 (K : Keep M0 M) (a : M.nb[j]? = some (.cells h.cs 41)) (a' : M.nb[i]? = some (.cells g.cs 41)) (hn : h.n = X.length) (hm : g.n = Y.length) (hb : h.n ≤ 1048576) (hR : Row M h.A (Sgs X)) (hR' : Row M g.A (Sgs Y)) {b r : Bool} (hr : r = (!b && sm14 h g X Y)) : A30_14 (some ⟨2 * j, 0, none⟩) (some ⟨2 * i, 0, none⟩) b M (BK M0 r) := by
  exact w30_14 (cn (fun hb' => e30_15 K a a' hn hm hb hR hR' (nx3 hr hb')) fun hb' => ad rfl (on (int_of a rfl) (ad rfl (on (int_of a' rfl) (e30_15 K a a' hn hm hb hR hR' (nx1 hr hb'))))))
theorem e30_13 (K : Keep M0 M) (a : M.nb[j]? = some (.cells h.cs 41)) (a' : M.nb[i]? = some (.cells g.cs 41)) (hn : h.n = X.length) (hm : g.n = Y.length) (hb : h.n ≤ 1048576) (hR : Row M h.A (Sgs X)) (hR' : Row M g.A (Sgs Y)) {b r : Bool} (hr : r = (!b && sm13 h g X Y)) : A30_13 (some ⟨2 * j, 0, none⟩) (some ⟨2 * i, 0, none⟩) b M (BK M0 r) := by
  exact w30_13 (cn (fun hb' => e30_14 K a a' hn hm hb hR hR' (nx3 hr hb')) fun hb' => ad rfl (on (int_of a rfl) (ad rfl (on (int_of a' rfl) (e30_14 K a a' hn hm hb hR hR' (nx1 hr hb'))))))
theorem e30_12 (K : Keep M0 M) (a : M.nb[j]? = some (.cells h.cs 41)) (a' : M.nb[i]? = some (.cells g.cs 41)) (hn : h.n = X.length) (hm : g.n = Y.length) (hb : h.n ≤ 1048576) (hR : Row M h.A (Sgs X)) (hR' : Row M g.A (Sgs Y)) {b r : Bool} (hr : r = (!b && sm12 h g X Y)) : A30_12 (some ⟨2 * j, 0, none⟩) (some ⟨2 * i, 0, none⟩) b M (BK M0 r) := by
  exact w30_12 (cn (fun hb' => e30_13 K a a' hn hm hb hR hR' (nx3 hr hb')) fun hb' => ad rfl (on (bool_of a rfl) (ad rfl (on (bool_of a' rfl) (e30_13 K a a' hn hm hb hR hR' (nx2 hr hb'))))))
theorem e30_11 (K : Keep M0 M) (a : M.nb[j]? = some (.cells h.cs 41)) (a' : M.nb[i]? = some (.cells g.cs 41)) (hn : h.n = X.length) (hm : g.n = Y.length) (hb : h.n ≤ 1048576) (hR : Row M h.A (Sgs X)) (hR' : Row M g.A (Sgs Y)) {b r : Bool} (hr : r = (!b && sm11 h g X Y)) : A30_11 (some ⟨2 * j, 0, none⟩) (some ⟨2 * i, 0, none⟩) b M (BK M0 r) := by
  refine w30_11 (cn (fun hb' => ⟨by rw [nx4 hr hb'], K⟩) fun hb' => ad rfl (on (int_of a rfl) (on (int_of a rfl) (on (int_of a rfl) (on (int_of a rfl) (ad rfl (on (int_of a' rfl) (on (int_of a' rfl) (on (int_of a' rfl) (on (int_of a' rfl) (pu (eq37 ..).2 (ty rfl ?_))))))))))))
  have q := nx2 hr hb'
  exact cn (fun hc => e30_12 K a a' hn hm hb hR hR' (nx3 q hc)) fun hc => ad rfl (on (int_of a rfl) (ad rfl (on (int_of a' rfl) (e30_12 K a a' hn hm hb hR hR' (nx1 q hc)))))
theorem e30_10 (K : Keep M0 M) (a : M.nb[j]? = some (.cells h.cs 41)) (a' : M.nb[i]? = some (.cells g.cs 41)) (hn : h.n = X.length) (hm : g.n = Y.length) (hb : h.n ≤ 1048576) (hR : Row M h.A (Sgs X)) (hR' : Row M g.A (Sgs Y)) {b r : Bool} (hr : r = (!b && sm10 h g X Y)) : A30_10 (some ⟨2 * j, 0, none⟩) (some ⟨2 * i, 0, none⟩) b M (BK M0 r) := by
  exact w30_10 (cn (fun hb' => e30_11 K a a' hn hm hb hR hR' (nx3 hr hb')) fun hb' => ad rfl (on (bool_of a rfl) (ad rfl (on (bool_of a' rfl) (e30_11 K a a' hn hm hb hR hR' (nx2 hr hb'))))))
theorem e30_9 (K : Keep M0 M) (a : M.nb[j]? = some (.cells h.cs 41)) (a' : M.nb[i]? = some (.cells g.cs 41)) (hn : h.n = X.length) (hm : g.n = Y.length) (hb : h.n ≤ 1048576) (hR : Row M h.A (Sgs X)) (hR' : Row M g.A (Sgs Y)) {b r : Bool} (hr : r = (!b && sm9 h g X Y)) : A30_9 (some ⟨2 * j, 0, none⟩) (some ⟨2 * i, 0, none⟩) b M (BK M0 r) := by
  exact w30_9 (cn (fun hb' => e30_10 K a a' hn hm hb hR hR' (nx3 hr hb')) fun hb' => ad rfl (on (int_of a rfl) (ad rfl (on (int_of a' rfl) (e30_10 K a a' hn hm hb hR hR' (nx1 hr hb'))))))
theorem e30_8 (K : Keep M0 M) (a : M.nb[j]? = some (.cells h.cs 41)) (a' : M.nb[i]? = some (.cells g.cs 41)) (hn : h.n = X.length) (hm : g.n = Y.length) (hb : h.n ≤ 1048576) (hR : Row M h.A (Sgs X)) (hR' : Row M g.A (Sgs Y)) {b r : Bool} (hr : r = (!b && sm8 h g X Y)) : A30_8 (some ⟨2 * j, 0, none⟩) (some ⟨2 * i, 0, none⟩) b M (BK M0 r) := by
  exact w30_8 (cn (fun hb' => e30_9 K a a' hn hm hb hR hR' (nx3 hr hb')) fun hb' => ad rfl (on (int_of a rfl) (ad rfl (on (int_of a' rfl) (e30_9 K a a' hn hm hb hR hR' (nx1 hr hb'))))))
theorem e30_7 (K : Keep M0 M) (a : M.nb[j]? = some (.cells h.cs 41)) (a' : M.nb[i]? = some (.cells g.cs 41)) (hn : h.n = X.length) (hm : g.n = Y.length) (hb : h.n ≤ 1048576) (hR : Row M h.A (Sgs X)) (hR' : Row M g.A (Sgs Y)) {b r : Bool} (hr : r = (!b && sm7 h g X Y)) : A30_7 (some ⟨2 * j, 0, none⟩) (some ⟨2 * i, 0, none⟩) b M (BK M0 r) := by
  exact w30_7 (cn (fun hb' => e30_8 K a a' hn hm hb hR hR' (nx3 hr hb')) fun hb' => ad rfl (on (int_of a rfl) (on (int_of a rfl) (on (int_of a rfl) (on (int_of a rfl) (on (int_of a rfl) (ad rfl (on (int_of a' rfl) (on (int_of a' rfl) (on (int_of a' rfl) (on (int_of a' rfl) (on (int_of a' rfl) (pu (eq36 ..).2 (ty rfl (e30_8 K a a' hn hm hb hR hR' (nx2 hr hb'))))))))))))))))
theorem e30_6 (K : Keep M0 M) (a : M.nb[j]? = some (.cells h.cs 41)) (a' : M.nb[i]? = some (.cells g.cs 41)) (hn : h.n = X.length) (hm : g.n = Y.length) (hb : h.n ≤ 1048576) (hR : Row M h.A (Sgs X)) (hR' : Row M g.A (Sgs Y)) {b r : Bool} (hr : r = (!b && sm6 h g X Y)) : A30_6 (some ⟨2 * j, 0, none⟩) (some ⟨2 * i, 0, none⟩) b M (BK M0 r) := by
  exact w30_6 (cn (fun hb' => e30_7 K a a' hn hm hb hR hR' (nx3 hr hb')) fun hb' => ad rfl (on (int_of a rfl) (ad rfl (on (int_of a' rfl) (e30_7 K a a' hn hm hb hR hR' (nx1 hr hb'))))))
theorem e30_5 (K : Keep M0 M) (a : M.nb[j]? = some (.cells h.cs 41)) (a' : M.nb[i]? = some (.cells g.cs 41)) (hn : h.n = X.length) (hm : g.n = Y.length) (hb : h.n ≤ 1048576) (hR : Row M h.A (Sgs X)) (hR' : Row M g.A (Sgs Y)) {b r : Bool} (hr : r = (!b && sm5 h g X Y)) : A30_5 (some ⟨2 * j, 0, none⟩) (some ⟨2 * i, 0, none⟩) b M (BK M0 r) := by
  exact w30_5 (cn (fun hb' => e30_6 K a a' hn hm hb hR hR' (nx3 hr hb')) fun hb' => ad rfl (on (int_of a rfl) (ad rfl (on (int_of a' rfl) (e30_6 K a a' hn hm hb hR hR' (nx1 hr hb'))))))
theorem e30_4 (K : Keep M0 M) (a : M.nb[j]? = some (.cells h.cs 41)) (a' : M.nb[i]? = some (.cells g.cs 41)) (hn : h.n = X.length) (hm : g.n = Y.length) (hb : h.n ≤ 1048576) (hR : Row M h.A (Sgs X)) (hR' : Row M g.A (Sgs Y)) {b r : Bool} (hr : r = (!b && sm4 h g X Y)) : A30_4 (some ⟨2 * j, 0, none⟩) (some ⟨2 * i, 0, none⟩) b M (BK M0 r) := by
  exact w30_4 (cn (fun hb' => e30_5 K a a' hn hm hb hR hR' (nx3 hr hb')) fun hb' => ad rfl (on (int_of a rfl) (on (int_of a rfl) (on (int_of a rfl) (ad rfl (on (int_of a' rfl) (on (int_of a' rfl) (on (int_of a' rfl) (pu (eq35 ..).2 (ty rfl (e30_5 K a a' hn hm hb hR hR' (nx2 hr hb'))))))))))))
theorem e30_3 (K : Keep M0 M) (a : M.nb[j]? = some (.cells h.cs 41)) (a' : M.nb[i]? = some (.cells g.cs 41)) (hn : h.n = X.length) (hm : g.n = Y.length) (hb : h.n ≤ 1048576) (hR : Row M h.A (Sgs X)) (hR' : Row M g.A (Sgs Y)) {b r : Bool} (hr : r = (!b && sm3 h g X Y)) : A30_3 (some ⟨2 * j, 0, none⟩) (some ⟨2 * i, 0, none⟩) b M (BK M0 r) := by
  exact w30_3 (cn (fun hb' => e30_4 K a a' hn hm hb hR hR' (nx3 hr hb')) fun hb' => ad rfl (on (int_of a rfl) (ad rfl (on (int_of a' rfl) (e30_4 K a a' hn hm hb hR hR' (nx1 hr hb'))))))
theorem e30_2 (K : Keep M0 M) (a : M.nb[j]? = some (.cells h.cs 41)) (a' : M.nb[i]? = some (.cells g.cs 41)) (hn : h.n = X.length) (hm : g.n = Y.length) (hb : h.n ≤ 1048576) (hR : Row M h.A (Sgs X)) (hR' : Row M g.A (Sgs Y)) {b r : Bool} (hr : r = (!b && sm2 h g X Y)) : A30_2 (some ⟨2 * j, 0, none⟩) (some ⟨2 * i, 0, none⟩) b M (BK M0 r) := by
  exact w30_2 (cn (fun hb' => e30_3 K a a' hn hm hb hR hR' (nx3 hr hb')) fun hb' => ad rfl (on (bool_of a rfl) (ad rfl (on (bool_of a' rfl) (e30_3 K a a' hn hm hb hR hR' (nx2 hr hb'))))))
theorem e30_1 (K : Keep M0 M) (a : M.nb[j]? = some (.cells h.cs 41)) (a' : M.nb[i]? = some (.cells g.cs 41)) (hn : h.n = X.length) (hm : g.n = Y.length) (hb : h.n ≤ 1048576) (hR : Row M h.A (Sgs X)) (hR' : Row M g.A (Sgs Y)) {b r : Bool} (hr : r = (!b && sm1 h g X Y)) : A30_1 (some ⟨2 * j, 0, none⟩) (some ⟨2 * i, 0, none⟩) b M (BK M0 r) := by
  exact w30_1 (cn (fun hb' => e30_2 K a a' hn hm hb hR hR' (nx3 hr hb')) fun hb' => ad rfl (on (bool_of a rfl) (ad rfl (on (bool_of a' rfl) (e30_2 K a a' hn hm hb hR hR' (nx2 hr hb'))))))
theorem c30 (hf : M.floor ≤ M.nb.size) (hn : h.n = X.length) (hm : g.n = Y.length) (hb : h.n ≤ 1048576) (hR : Row M h.A (Sgs X)) (hR' : Row M g.A (Sgs Y)) : Cn Try.prog 30 #[.agg h.cs, .agg g.cs] M (BK M (h.same X g Y)) := by
  have a := Mem.new_at M (.cells h.cs 41)
  have K : Keep M (M.new (.cells h.cs 41)) := .new _ _
  refine w30_0 ?_
  generalize M.new (.cells h.cs 41) = N at a K ⊢
  have a' := Mem.new_at N (.cells g.cs 41)
  have K2 : Keep N (N.new (.cells g.cs 41)) := .new _ _
  have a2 := at_keep a K2
  generalize N.new (.cells g.cs 41) = N2 at a' K2 a2 ⊢
  have KK := K.trans K2
  have hr : h.same X g Y = (!false && ((h.ex == g.ex) && ((h.sl == g.sl) && sm1 h g X Y))) := rfl
  have q := nx2 hr rfl
  refine on (bool_of a2 rfl) (on (bool_of a' rfl) (cn (fun hc => e30_1 KK a2 a' hn hm hb (hR.keep KK) (hR'.keep KK) (nx3 q hc)) fun hc => on (int_of a2 rfl) (on (int_of a' rfl) (e30_1 KK a2 a' hn hm hb (hR.keep KK) (hR'.keep KK) (nx1 q hc)))))
end
end Go.Zt
