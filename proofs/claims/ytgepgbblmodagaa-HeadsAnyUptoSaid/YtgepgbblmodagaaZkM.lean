/- Layer 20: sequence headers: CheckSeq c14 c15, SeqBytes c10 c11, ReadSeq c12 c13. -/
import Derived.Test.YtgepgbblmodagaaZkE
import Derived.Test.YtgepgbblmodagaaZkDa
import Derived.Test.YtgepgbblmodagaaProg
import Derived.Test.YtgepgbblmodagaaZkA
import Derived.Test.YtgepgbblmodagaaZqT
set_option linter.unusedSimpArgs false
set_option linter.unusedVariables false
namespace Go.Zt
open Go Go.Sim Go.Proofs Go.RowKit

theorem nb {b : Bool} (h : (!b) = true) : b = false := by cases b <;> simp_all
theorem nb' {b : Bool} (h : (!b) = false) : b = true := by cases b <;> simp_all
theorem fb {M N : Mem} (hf : M.floor ≤ M.nb.size) (K : Keep M N) : N.floor ≤ N.nb.size := by rw [K.floor]; exact Nat.le_trans hf K.size
theorem set2s {M : Mem} {j : Nat} {a b : Value} {e : TypeId} (h : M.nb[j]? = some (.cells #[a, b] e)) (hf : M.floor ≤ j) (x y : Int) :
    ∃ M1, M.put (2 * j) 0 (.int .i64 x) = some M1 ∧ ∃ M2, M1.put (2 * j) 1 (.int .i64 y) = some M2 ∧ Chg (· = j) M M2 ∧ M2.nb[j]? = some (.cells #[.int .i64 x, .int .i64 y] e) := by
  have p1 := put_of (i := 0) (v := .int .i64 x) h hf (by simp) rfl
  have C1 := upd_chg (M := M) (S := (· = j)) (b := .cells ((#[a, b] : Array Value).setIfInBounds 0 (.int .i64 x)) e) (j := j) rfl
  have u1 := upd_at (M := M) (b := .cells ((#[a, b] : Array Value).setIfInBounds 0 (.int .i64 x)) e) (lt_of_at h)
  generalize M.upd j _ = M1 at p1 C1 u1
  have p2 := put_of (i := 1) (v := .int .i64 y) u1 (by rw [C1.floor]; exact hf) (by simp) rfl
  have C2 := C1.trans (upd_chg (M := M1) (S := (· = j)) (b := .cells (((#[a, b] : Array Value).setIfInBounds 0 (.int .i64 x)).setIfInBounds 1 (.int .i64 y)) e) (j := j) rfl)
  have u2 := upd_at (M := M1) (b := .cells (((#[a, b] : Array Value).setIfInBounds 0 (.int .i64 x)).setIfInBounds 1 (.int .i64 y)) e) (lt_of_at u1)
  generalize M1.upd j _ = M2 at p2 C2 u2
  exact ⟨M1, p1, M2, p2, C2, u2⟩
def mayS (w h : Int) : Bool := decide (16 ≤ w ∧ w ≤ 256 ∧ 16 ≤ h ∧ h ≤ 256 ∧ w % 2 = 0 ∧ h % 2 = 0)
def chkS (w h : Int) : Nat := if mayS w h then 0 else 2
theorem m2 (x : Int) : (x.tmod 2 == 0) = decide (x % 2 = 0) := by
  rw [Bool.eq_iff_iff]
  simp only [beq_iff_eq, decide_eq_true_eq]
  rw [← Int.dvd_iff_tmod_eq_zero, Int.dvd_iff_emod_eq_zero]
theorem c55 {x a b : Int} {M : Mem} : Cn Try.prog 55 #[.int .i64 x, .int .i64 a, .int .i64 b] M fun v N => v = .bool (decide (a ≤ x ∧ x ≤ b)) ∧ N = M :=
  w55_0 ⟨fun h => ⟨by congr 1; rw [decide_eq_decide]; omega, rfl⟩, fun h => ⟨by rw [decide_eq_false]; omega, rfl⟩⟩
theorem c45 {x a b : Int} {M : Mem} : Cn Try.prog 45 #[.int .i64 x, .int .i64 a, .int .i64 b] M fun v N => v = .bool (decide (a ≤ x ∧ x ≤ b)) ∧ N = M :=
  w45_0 ⟨fun h => ⟨by congr 1; rw [decide_eq_decide]; omega, rfl⟩, fun h => ⟨by rw [decide_eq_false]; omega, rfl⟩⟩
theorem c44 {x : Int} {M : Mem} : Cn Try.prog 44 #[.int .i64 x] M fun v N => v = .bool (decide (16 ≤ x ∧ x ≤ 256 ∧ x % 2 = 0)) ∧ N = M := by
  refine w44_0 (Cn.eq c55 ⟨_, rfl, fun h => ⟨?_, rfl⟩, fun h => ⟨?_, rfl⟩⟩)
  · have := of_decide_eq_true h
    rw [m2]; congr 1; rw [decide_eq_decide]; omega
  · have := of_decide_eq_false h
    congr 1; rw [eq_comm]; exact decide_eq_false (by omega)
def IntK (M : Mem) (x : Int) : Value → Mem → Prop := fun v N => v = .int .i64 x ∧ Keep M N
theorem c14 {w h : Int} {M : Mem} : Cn Try.prog 14 #[.agg #[.int .i64 w, .int .i64 h]] M (IntK M (chkS w h : Nat)) := by
  have a := Mem.new_at M (.cells #[.int .i64 w, .int .i64 h] 23)
  have K : Keep M (M.new (.cells #[.int .i64 w, .int .i64 h] 23)) := .new _ _
  refine w14_0 ?_
  generalize M.new (.cells #[.int .i64 w, .int .i64 h] 23) = N at a K ⊢
  have key : ∀ b, b = !mayS w h → A14_1 b N (IntK M (chkS w h : Nat)) := by
    rintro b rfl
    refine w14_1 ⟨fun hb => ⟨?_, K⟩, fun hb => ⟨?_, K⟩⟩
    · unfold chkS; rw [if_neg (by rw [nb hb]; decide)]; rfl
    · unfold chkS; rw [if_pos (nb' hb)]; rfl
  refine ⟨_, int_of (i := 0) a rfl, Cn.eq c44 ⟨_, rfl, fun hb => key _ ?_, fun hb => ⟨_, int_of (i := 0 + 1) a rfl, Cn.eq c44 ⟨_, rfl, key _ ?_⟩⟩⟩⟩
  · have := of_decide_eq_false (nb hb)
    unfold mayS; rw [decide_eq_false (by omega)]; rfl
  · have := of_decide_eq_true (nb' hb)
    congr 1
    unfold mayS; rw [decide_eq_decide]; omega
theorem c15 {w h : Int} {M : Mem} : Cn Try.prog 15 #[.agg #[.int .i64 w, .int .i64 h]] M (IntK M (chkS w h : Nat)) := by
  have a := Mem.new_at M (.cells #[.int .i64 w, .int .i64 h] 23)
  have K : Keep M (M.new (.cells #[.int .i64 w, .int .i64 h] 23)) := .new _ _
  refine w15_0 ?_
  generalize M.new (.cells #[.int .i64 w, .int .i64 h] 23) = N at a K ⊢
  have key : ∀ b, b = !mayS w h → A15_3 b N (IntK M (chkS w h : Nat)) := by
    rintro b rfl
    refine w15_3 ⟨fun hb => ⟨?_, K⟩, fun hb => ⟨?_, K⟩⟩
    · unfold chkS; rw [if_neg (by rw [nb hb]; decide)]; rfl
    · unfold chkS; rw [if_pos (nb' hb)]; rfl
  have t : ∀ x : Int, (x.tmod 2 != 0) = !decide (x % 2 = 0) := fun x => by rw [← m2]; rfl
  have key2 : ∀ b, b = !decide (16 ≤ w ∧ w ≤ 256 ∧ 16 ≤ h ∧ h ≤ 256 ∧ w % 2 = 0) → A15_2 (some ⟨2 * M.nb.size, 0, none⟩) b N (IntK M (chkS w h : Nat)) := by
    rintro b rfl
    refine w15_2 ⟨fun hb => key _ ?_, fun hb => ⟨_, rfl, _, int_of (i := 0 + 1) a rfl, key _ ?_⟩⟩
    · have := of_decide_eq_false (nb hb)
      unfold mayS; rw [decide_eq_false (by omega)]; rfl
    · have := of_decide_eq_true (nb' hb)
      rw [t]; congr 1; unfold mayS; rw [decide_eq_decide]; omega
  have key1 : ∀ b, b = !decide (16 ≤ w ∧ w ≤ 256 ∧ 16 ≤ h ∧ h ≤ 256) → A15_1 (some ⟨2 * M.nb.size, 0, none⟩) b N (IntK M (chkS w h : Nat)) := by
    rintro b rfl
    refine w15_1 ⟨fun hb => key2 _ ?_, fun hb => ⟨_, rfl, _, int_of (i := 0) a rfl, key2 _ ?_⟩⟩
    · have := of_decide_eq_false (nb hb)
      rw [decide_eq_false (by omega)]; rfl
    · have := of_decide_eq_true (nb' hb)
      rw [t]; congr 1; rw [decide_eq_decide]; omega
  refine ⟨_, int_of (i := 0) a rfl, Cn.eq c45 ⟨_, rfl, fun hb => key1 _ ?_, fun hb => ⟨_, int_of (i := 0 + 1) a rfl, Cn.eq c45 ⟨_, rfl, key1 _ ?_⟩⟩⟩⟩
  · have := of_decide_eq_false (nb hb)
    rw [decide_eq_false (by omega)]; rfl
  · have := of_decide_eq_true (nb' hb)
    congr 1; rw [decide_eq_decide]; omega
/-! ### The bytes of a sequence header -/
def seqN (w h : Int) : Nat := ((w - 16) / 2 * 512 + (h - 16) / 2 * 4).toNat
def sqb (w h : Int) : List Nat := if mayS w h then [seqN w h / 256, seqN w h % 256] else []
def SqR (M : Mem) (w h : Int) : Value → Mem → Prop := fun v N => Keep M N ∧ ∃ A c, v = .tuple #[.slice A (sqb w h).length c, .int .i64 (chkS w h : Nat)] ∧ Row N A (U8 (sqb w h))
theorem row0 {M : Mem} {A : Option Addr} : Row M A [] := fun i h => absurd h (by simp)
theorem frV (M : Mem) (e : TypeId) (L : List Value) {cs : Array Value} (h : L.toArray = cs) : ∃ N, M.new (.cells cs e) = N ∧ Keep M N ∧ Row N (some ⟨2 * M.nb.size, 0, none⟩) L := by
  subst h; exact ⟨_, rfl, .new _ _, Row.new M e L⟩
theorem chk0 {w h : Int} (e : ((chkS w h : Nat) : Int) = 0) : mayS w h = true := by
  unfold chkS at e
  cases hm : mayS w h
  · rw [hm] at e; cases e
  · rfl
theorem chk1 {w h : Int} (e : ((chkS w h : Nat) : Int) ≠ 0) : mayS w h = false := by
  cases hm : mayS w h
  · rfl
  · exact absurd (by unfold chkS; rw [hm]; rfl) e
theorem mayS_of {w h : Int} (e : mayS w h = true) : 16 ≤ w ∧ w ≤ 256 ∧ 16 ≤ h ∧ h ≤ 256 ∧ w % 2 = 0 ∧ h % 2 = 0 := of_decide_eq_true e
theorem c11 {w h : Int} {M : Mem} : Cn Try.prog 11 #[.agg #[.int .i64 w, .int .i64 h]] M (SqR M w h) := by
  have a := Mem.new_at M (.cells #[.int .i64 w, .int .i64 h] 23)
  have K : Keep M (M.new (.cells #[.int .i64 w, .int .i64 h] 23)) := .new _ _
  refine w11_0 ?_
  generalize M.new (.cells #[.int .i64 w, .int .i64 h] 23) = N at a K ⊢
  refine ⟨_, int_of (i := 0) a rfl, _, int_of (i := 0 + 1) a rfl, Cn.mono c15 ?_⟩
  rintro _ N3 ⟨rfl, K3⟩
  have a3 := at_keep a K3
  refine ⟨_, rfl, fun he => ?_, fun he => ?_⟩
  · have hm := chk1 he
    have e : sqb w h = [] := by unfold sqb; rw [hm]; rfl
    refine ⟨K.trans K3, none, 0, ?_, ?_⟩
    · rw [e]; rfl
    · rw [e]; exact row0
  · have hm := chk0 he
    obtain ⟨h1, h2, h3, h4, h5, h6⟩ := mayS_of hm
    have e : sqb w h = [seqN w h / 256, seqN w h % 256] := by unfold sqb; rw [hm]; rfl
    have t1 : (w - 16).tdiv 2 = (w - 16) / 2 := Int.tdiv_eq_ediv_of_nonneg (by omega)
    have t2 : (h - 16).tdiv 2 = (h - 16) / 2 := Int.tdiv_eq_ediv_of_nonneg (by omega)
    have g : (w - 16) / 2 * 512 + (h - 16) / 2 * 4 = ((seqN w h : Nat) : Int) := by unfold seqN; omega
    have gb : seqN w h < 65536 := by unfold seqN; omega
    refine ⟨_, int_of (i := 0) a3 rfl, _, int_of (i := 0 + 1) a3 rfl, ?_⟩
    simp only [i64w (x := w - 16) (by omega), i64w (x := h - 16) (by omega), t1, t2, i64w (x := (w - 16) / 2) (by omega), i64w (x := (h - 16) / 2) (by omega), i64w (x := (w - 16) / 2 * 512) (by omega), i64w (x := (h - 16) / 2 * 4) (by omega), g, i64w (x := ((seqN w h : Nat) : Int)) (by omega)]
    generalize seqN w h = q at *
    have t3 : ((q : Nat) : Int).tdiv 256 = ((q / 256 : Nat) : Int) := by rw [Int.tdiv_eq_ediv_of_nonneg (by omega)]; omega
    have t4 : ((q : Nat) : Int).tmod 256 = ((q % 256 : Nat) : Int) := by rw [Int.tmod_eq_emod_of_nonneg (by omega)]; omega
    simp only [t3, t4, i64w (x := ((q / 256 : Nat) : Int)) (by omega), u8w (x := ((q / 256 : Nat) : Int)) (by omega), u8w (x := ((q % 256 : Nat) : Int)) (by omega)]
    obtain ⟨N5, e5, K5, R5⟩ := frV N3 5 (U8 [q / 256, q % 256]) rfl
    refine ⟨K.trans (K3.trans ?_), some ⟨2 * N3.nb.size, 0, none⟩, 2, ?_, ?_⟩
    · rw [← e5] at K5; exact K5
    · rw [e]; unfold chkS; rw [hm]; rfl
    · rw [e, ← e5] at *; exact R5
theorem packS (a b : Nat) (ha : a < 121) (hb : b < 121) : pack (bitsN a 7 ++ bitsN b 7) = [(a * 512 + b * 4) / 256, (a * 512 + b * 4) % 256] := by
  simp [pack, gbyte, bitL, numb, bitsN, List.range_succ]
  omega
theorem c10 {w h : Int} {M : Mem} (hf : M.floor ≤ M.nb.size) : Cn Try.prog 10 #[.agg #[.int .i64 w, .int .i64 h]] M (SqR M w h) := by
  have a := Mem.new_at M (.cells #[.int .i64 w, .int .i64 h] 23)
  have K : Keep M (M.new (.cells #[.int .i64 w, .int .i64 h] 23)) := .new _ _
  refine w10_0 ?_
  generalize M.new (.cells #[.int .i64 w, .int .i64 h] 23) = N at a K ⊢
  refine ⟨_, int_of (i := 0) a rfl, _, int_of (i := 0 + 1) a rfl, Cn.mono c14 ?_⟩
  rintro _ N3 ⟨rfl, K3⟩
  have a3 := at_keep a K3
  have K0 := K.trans K3
  refine ⟨_, rfl, fun he => ?_, fun he => ?_⟩
  · have hm := chk1 he
    have e : sqb w h = [] := by unfold sqb; rw [hm]; rfl
    refine ⟨K0, none, 0, ?_, ?_⟩
    · rw [e]; rfl
    · rw [e]; exact row0
  · have hm := chk0 he
    obtain ⟨h1, h2, h3, h4, h5, h6⟩ := mayS_of hm
    have t1 : (w - 16).tdiv 2 = (((w - 16) / 2).toNat : Int) := by rw [Int.tdiv_eq_ediv_of_nonneg (by omega)]; omega
    have t2 : (h - 16).tdiv 2 = (((h - 16) / 2).toNat : Int) := by rw [Int.tdiv_eq_ediv_of_nonneg (by omega)]; omega
    have e : sqb w h = [(((w - 16) / 2).toNat * 512 + ((h - 16) / 2).toNat * 4) / 256, (((w - 16) / 2).toNat * 512 + ((h - 16) / 2).toNat * 4) % 256] := by
      have : seqN w h = ((w - 16) / 2).toNat * 512 + ((h - 16) / 2).toNat * 4 := by unfold seqN; omega
      unfold sqb; rw [hm, this]; rfl
    have ec : chkS w h = 0 := by unfold chkS; rw [hm]; rfl
    have x1 : ((w - 16) / 2).toNat < 121 := by omega
    have x2 : ((h - 16) / 2).toNat < 121 := by omega
    have y1 : IntKind.u32.wrap ((IntKind.u32.wrap (IntKind.i64.wrap (w - 16))).tdiv 2) = (((w - 16) / 2).toNat : Int) := by
      rw [i64w (x := w - 16) (by omega), u32w (x := w - 16) (by omega), t1, u32w (by omega)]
    have y2 : IntKind.u32.wrap ((IntKind.u32.wrap (IntKind.i64.wrap (h - 16))).tdiv 2) = (((h - 16) / 2).toNat : Int) := by
      rw [i64w (x := h - 16) (by omega), u32w (x := h - 16) (by omega), t2, u32w (by omega)]
    generalize ((w - 16) / 2).toNat = p at *
    generalize ((h - 16) / 2).toNat = q at *
    have f3 := fb hf K0
    refine Cn.mono c19 ?_
    rintro _ N5 ⟨rfl, K5, s5, W5⟩
    have a5 := at_keep a3 K5
    have W : Wr (fun i => N5.nb.size ≤ i) N5 N3.nb.size [] := ⟨by show ¬ (N5.nb.size ≤ _); omega, W5.bin, W5.len, by obtain ⟨A, c, g1, g2, g3⟩ := W5.ex; exact ⟨A, c, g1, g2.mono fun i _ hi => hi.elim, g3⟩⟩
    have F : Fl (fun i => N5.nb.size ≤ i) N5 N3.nb.size := ⟨fun i hi => by rw [K5.floor]; rcases hi with hi | hi <;> omega, fun i hi => hi⟩
    have w1 : wFixed [] p 7 = (0, [] ++ bitsN p 7) := by unfold wFixed; rw [if_neg (by simp; omega)]; rfl
    have w2 : wFixed ([] ++ bitsN p 7) q 7 = (0, [] ++ bitsN p 7 ++ bitsN q 7) := by unfold wFixed; rw [if_neg (by simp; omega)]; rfl
    refine ⟨_, rfl, _, int_of (i := 0) a5 rfl, _, int_of (i := 0 + 1) a5 rfl, w10_1 ⟨fun _ => ⟨.int .i64 w, by kernel_rfl, w, rfl, Cn.mono (c22 F W y1 (by omega) 7 (by simp)) ?_⟩, fun h => absurd (by decide) h⟩⟩
    rw [w1]
    rintro _ N6 ⟨rfl, K6, W6⟩
    refine ⟨_, rfl, fun h => absurd rfl h, fun _ => w10_1 ⟨fun _ => ⟨.int .i64 h, by kernel_rfl, h, rfl, Cn.mono (c22 (F.chg K6) W6 y2 (by omega) 7 (by simp [bitsN])) ?_⟩, fun h => absurd (by decide) h⟩⟩
    rw [w2]
    rintro _ N7 ⟨rfl, K7, W7⟩
    have f7 : N7.floor ≤ N7.nb.size := by
      have := K6.size; have := K7.size; have := K5.size
      rw [K7.floor, K6.floor, K5.floor]; omega
    refine ⟨_, rfl, fun h => absurd rfl h, fun _ => w10_1 ⟨fun h => absurd h (by decide), fun _ => Cn.mono (c28 W7 f7) ?_⟩⟩
    rintro _ N8 ⟨A, c, rfl, K8, O8, _⟩
    have hp : pack ([] ++ bitsN p 7 ++ bitsN q 7) = sqb w h := by rw [e, List.nil_append]; exact packS p q x1 x2
    dsimp only at O8
    rw [hp] at O8
    have big : ∀ i, (N5.nb.size ≤ i ∨ i = N3.nb.size) → M.nb.size ≤ i := fun i hi => by have := K0.size; have := K5.size; omega
    refine ⟨_, rfl, (Keep.step (Keep.step (K0.trans K5) K6 big) K7 big).trans K8, A, c, ?_, O8.row⟩
    rw [ec, ← hp]; rfl
end Go.Zt


/- Layer 20: reading a sequence header: c13 (and c12). -/
set_option linter.unusedSimpArgs false
set_option linter.unusedVariables false
namespace Go.Zt
open Go Go.Sim Go.Proofs Go.RowKit

def rdS (b : List Nat) : Nat × Nat × Nat :=
  if b.length < 2 then (0, 0, 3)
  else if 16 + 2 * ((b.getD 0 0 * 256 + b.getD 1 0) / 512) > 256 ∨ 16 + 2 * ((b.getD 0 0 * 256 + b.getD 1 0) / 4 % 128) > 256 then (0, 0, 5)
  else if (b.getD 0 0 * 256 + b.getD 1 0) % 4 ≠ 0 ∨ b.length > 2 then (0, 0, 4)
  else (16 + 2 * ((b.getD 0 0 * 256 + b.getD 1 0) / 512), 16 + 2 * ((b.getD 0 0 * 256 + b.getD 1 0) / 4 % 128), 0)
def RqR (M : Mem) (r : Nat × Nat × Nat) : Value → Mem → Prop := fun v N => v = .tuple #[.agg #[.int .i64 (r.1 : Nat), .int .i64 (r.2.1 : Nat)], .int .i64 (r.2.2 : Nat)] ∧ Keep M N
/-- The end of every road: the answer's cells are set and read. -/
theorem fin2 {M0 M : Mem} {j : Nat} {a b : Value} {e : TypeId} (K : Keep M0 M) (h : M.nb[j]? = some (.cells #[a, b] e)) (hj : M0.nb.size ≤ j) (hf : M.floor ≤ j) (x y : Int) :
    ∃ M1, M.put (2 * j) 0 (.int .i64 x) = some M1 ∧ ∃ M2, M1.put (2 * j) 1 (.int .i64 y) = some M2 ∧ M2.intAt .i64 (2 * j) 0 = some x ∧ M2.intAt .i64 (2 * j) 1 = some y ∧ Keep M0 M2 := by
  obtain ⟨M1, p1, M2, p2, C, u⟩ := set2s h hf x y
  exact ⟨M1, p1, M2, p2, int_of (i := 0) u rfl, int_of (i := 1) u rfl, Keep.step K C fun i hi => by omega⟩
theorem e13_2 {M0 M : Mem} {j i : Nat} {W H : Nat} (K : Keep M0 M) (hj : M.nb[j]? = some (.cells #[.int .i64 0, .int .i64 0] 23)) (hi : M.nb[i]? = some (.cells #[.int .i64 (W : Int), .int .i64 (H : Int)] 23)) (h0 : M0.nb.size ≤ j) (hf : M.floor ≤ j) (b : Bool) :
    A13_2 (some ⟨2 * j, 0, none⟩) (some ⟨2 * i, 0, none⟩) b M (RqR M0 (if b then (0, 0, 4) else (W, H, 0))) := by
  refine w13_2 ⟨fun hb => ?_, fun hb => ?_⟩
  · obtain ⟨M1, p1, M2, p2, i1, i2, K2⟩ := fin2 K hj h0 hf 0 0
    subst hb
    exact ⟨_, rfl, M1, p1, M2, p2, _, rfl, 0, i1, 0, i2, rfl, K2⟩
  · obtain ⟨M1, p1, M2, p2, i1, i2, K2⟩ := fin2 K hj h0 hf (W : Int) (H : Int)
    subst hb
    exact ⟨_, rfl, _, int_of (i := 0) hi rfl, _, int_of (i := 0 + 1) hi rfl, _, rfl, M1, p1, M2, p2, _, rfl, _, i1, _, i2, rfl, K2⟩
theorem e13_1 {M0 M : Mem} {j i : Nat} {W H : Nat} {A : Option Addr} {l c n : Nat} (K : Keep M0 M) (hj : M.nb[j]? = some (.cells #[.int .i64 0, .int .i64 0] 23)) (hi : M.nb[i]? = some (.cells #[.int .i64 (W : Int), .int .i64 (H : Int)] 23)) (h0 : M0.nb.size ≤ j) (hf : M.floor ≤ j) {x : Int} (hx : x = (n : Int)) (b : Bool) :
    A13_1 A l c (some ⟨2 * j, 0, none⟩) x (some ⟨2 * i, 0, none⟩) b M (RqR M0 (if b then (0, 0, 5) else if n % 4 ≠ 0 ∨ l > 2 then (0, 0, 4) else (W, H, 0))) := by
  subst hx
  have tm : ((n : Nat) : Int).tmod 4 = ((n % 4 : Nat) : Int) := by rw [Int.tmod_eq_emod_of_nonneg (by omega)]; omega
  refine w13_1 ⟨fun hb => ?_, fun hb => ⟨fun h4 => ?_, fun h4 => ?_⟩⟩
  · obtain ⟨M1, p1, M2, p2, i1, i2, K2⟩ := fin2 K hj h0 hf 0 0
    subst hb
    exact ⟨_, rfl, M1, p1, M2, p2, _, rfl, 0, i1, 0, i2, rfl, K2⟩
  · subst hb
    rw [tm] at h4
    have e : (if false = true then ((0, 0, 5) : Nat × Nat × Nat) else if n % 4 ≠ 0 ∨ l > 2 then (0, 0, 4) else (W, H, 0)) = (0, 0, 4) := by rw [if_neg (by decide), if_pos (.inl (by omega))]
    rw [e]; exact e13_2 K hj hi h0 hf true
  · subst hb
    rw [tm] at h4
    have e : (if false = true then ((0, 0, 5) : Nat × Nat × Nat) else if n % 4 ≠ 0 ∨ l > 2 then (0, 0, 4) else (W, H, 0)) = (if decide ((l : Int) > 2) = true then (0, 0, 4) else (W, H, 0)) := by
      rw [if_neg (by decide)]
      by_cases hl : l > 2
      · rw [if_pos (.inr hl), if_pos (by rw [decide_eq_true_eq]; omega)]
      · rw [if_neg (by omega), if_neg (by rw [decide_eq_true_eq]; omega)]
    rw [e]; exact e13_2 K hj hi h0 hf _
theorem put1 {M : Mem} {j : Nat} {cs : Array Value} {e : TypeId} (i : Nat) (v : Value) (h : M.nb[j]? = some (.cells cs e)) (hf : M.floor ≤ j) (hi : i < cs.size) (hv : oneCell v = true) :
    ∃ M1, M.put (2 * j) i v = some M1 ∧ Chg (· = j) M M1 ∧ M1.nb.size = M.nb.size ∧ M1.nb[j]? = some (.cells (cs.setIfInBounds i v) e) :=
  ⟨_, put_of h hf hi hv, upd_chg rfl, upd_size _, upd_at (lt_of_at h)⟩
def seqW (b : List Nat) : Nat := b.getD 0 0 * 256 + b.getD 1 0
theorem seqb {b : List Nat} (hB : Byt b) (i : Nat) : b.getD i 0 < 256 := by
  by_cases h : i < b.length
  · have := hB b[i] (List.getElem_mem _); simpa [List.getD_eq_getElem?_getD, h] using this
  · simp [List.getD_eq_getElem?_getD, h]
theorem c13 {M : Mem} {A : Option Addr} {l c : Nat} {b : List Nat} (hf : M.floor ≤ M.nb.size) (hR : Row M A (U8 b)) (hl : l = b.length) (hB : Byt b) : Cn Try.prog 13 #[.slice A l c] M (RqR M (rdS b)) := by
  have a := Mem.new_at M (.cells #[.int .i64 0, .int .i64 0] 23)
  have K : Keep M (M.new (.cells #[.int .i64 0, .int .i64 0] 23)) := .new _ _
  have sz := Mem.new_size M (.cells #[.int .i64 0, .int .i64 0] 23)
  refine w13_0 ?_
  generalize M.new (.cells #[.int .i64 0, .int .i64 0] 23) = N at a K sz ⊢
  have fN : N.floor ≤ M.nb.size := by rw [K.floor]; exact hf
  refine ⟨fun h => ?_, fun h => ?_⟩
  · obtain ⟨M1, p1, M2, p2, i1, i2, K2⟩ := fin2 K a (Nat.le_refl _) fN 0 0
    have e : rdS b = (0, 0, 3) := by unfold rdS; rw [if_pos (by omega)]
    rw [e]
    exact ⟨M1, p1, M2, p2, 0, i1, 0, i2, rfl, K2⟩
  · have l2 : ¬ b.length < 2 := by omega
    have R := hR.keep K
    have b0 := seqb hB 0
    have b1 := seqb hB 1
    obtain ⟨a0, e0, r0⟩ := R.int1 (n := l) (i := 0) (z := 0) (k := .u8) (x := (b.getD 0 0 : Nat)) rfl (by omega) (by simp [U8, List.getD_eq_getElem?_getD, show 0 < b.length by omega])
    obtain ⟨a1, e1, r1⟩ := R.int1 (n := l) (i := 1) (z := 1) (k := .u8) (x := (b.getD 1 0 : Nat)) rfl (by omega) (by simp [U8, List.getD_eq_getElem?_getD, show 1 < b.length by omega])
    refine ⟨_, e0, _, r0, _, e1, _, r1, ?_⟩
    have e : rdS b = if decide (16 + 2 * (seqW b / 512) > 256 ∨ 16 + 2 * (seqW b / 4 % 128) > 256) = true then (0, 0, 5) else if seqW b % 4 ≠ 0 ∨ l > 2 then (0, 0, 4) else (16 + 2 * (seqW b / 512), 16 + 2 * (seqW b / 4 % 128), 0) := by
      unfold rdS; rw [if_neg l2, hl]; simp only [decide_eq_true_eq]; rfl
    rw [e]
    have hn : seqW b = b.getD 0 0 * 256 + b.getD 1 0 := rfl
    have nb : seqW b < 65536 := by rw [hn]; omega
    have g0 : IntKind.i64.wrap ((IntKind.i64.wrap ((IntKind.i64.wrap ((b.getD 0 0 : Nat) : Int)) * 256)) + (IntKind.i64.wrap ((b.getD 1 0 : Nat) : Int))) = ((seqW b : Nat) : Int) := by
      rw [i64w (x := ((b.getD 0 0 : Nat) : Int)) (by omega), i64w (x := ((b.getD 1 0 : Nat) : Int)) (by omega), i64w (x := ((b.getD 0 0 : Nat) : Int) * 256) (by omega), i64w (by omega), hn]; omega
    rw [g0]
    generalize seqW b = n at *
    have t1 : ((n : Nat) : Int).tdiv 512 = ((n / 512 : Nat) : Int) := tdivN n 512
    have t2 : ((n : Nat) : Int).tdiv 4 = ((n / 4 : Nat) : Int) := tdivN n 4
    have t3 : ((n / 4 : Nat) : Int).tmod 128 = ((n / 4 % 128 : Nat) : Int) := tmodN (n / 4) 128
    have g1 : IntKind.i64.wrap (16 + (IntKind.i64.wrap (2 * (IntKind.i64.wrap (((n : Nat) : Int).tdiv 512))))) = ((16 + 2 * (n / 512) : Nat) : Int) := by
      rw [t1, i64w (x := ((n / 512 : Nat) : Int)) (by omega), i64w (x := 2 * ((n / 512 : Nat) : Int)) (by omega), i64w (by omega)]; omega
    have g2 : IntKind.i64.wrap (16 + (IntKind.i64.wrap (2 * ((IntKind.i64.wrap (((n : Nat) : Int).tdiv 4)).tmod 128)))) = ((16 + 2 * (n / 4 % 128) : Nat) : Int) := by
      rw [t2, i64w (x := ((n / 4 : Nat) : Int)) (by omega), t3, i64w (x := 2 * ((n / 4 % 128 : Nat) : Int)) (by omega), i64w (by omega)]; omega
    rw [g1, g2]
    have a2 := Mem.new_at N (.cells #[.int .i64 0, .int .i64 0] 23)
    have K2 : Keep N (N.new (.cells #[.int .i64 0, .int .i64 0] 23)) := .new _ _
    generalize N.new (.cells #[.int .i64 0, .int .i64 0] 23) = N2 at a2 K2 ⊢
    obtain ⟨M1, p1, M2, p2, C, u⟩ := set2s a2 (by rw [K2.floor]; omega) ((16 + 2 * (n / 512) : Nat) : Int) ((16 + 2 * (n / 4 % 128) : Nat) : Int)
    have KK : Keep M M2 := Keep.step (K.trans K2) C fun i hi => by omega
    have aj := at_chg (at_keep a K2) C (by omega)
    have fj : M2.floor ≤ M.nb.size := by rw [KK.floor]; exact hf
    refine ⟨M1, p1, M2, p2, _, int_of (i := 0) u rfl, fun h5 => ?_, fun h5 => ⟨_, int_of (i := 0 + 1) u rfl, ?_⟩⟩
    · have := e13_1 (A := A) (l := l) (c := c) (n := n) KK aj u (Nat.le_refl _) fj rfl true
      rw [decide_eq_true (by omega)]; exact this
    · have := e13_1 (A := A) (l := l) (c := c) (n := n) KK aj u (Nat.le_refl _) fj rfl (decide (((16 + 2 * (n / 4 % 128) : Nat) : Int) > 256))
      have ed : decide (16 + 2 * (n / 512) > 256 ∨ 16 + 2 * (n / 4 % 128) > 256) = decide (((16 + 2 * (n / 4 % 128) : Nat) : Int) > 256) := by rw [decide_eq_decide]; omega
      rw [ed]; exact this
/-! ### The program's -/
theorem bits7 {b : List Nat} (hB : Byt b) : numb (bitOf b) 0 7 = seqW b / 512 ∧ numb (bitOf b) 7 7 = seqW b / 4 % 128 ∧ numb (bitOf b) 14 2 = seqW b % 4 := by
  have b0 := seqb hB 0
  have b1 := seqb hB 1
  unfold seqW
  simp only [numb, bitOf, Nat.reduceAdd, Nat.reduceDiv, Nat.reduceMod, Nat.reduceSub, Nat.reducePow]
  refine ⟨?_, ?_, ?_⟩ <;> omega
theorem e12_3 {M0 M : Mem} {j i : Nat} {W H : Nat} (K : Keep M0 M) (hj : M.nb[j]? = some (.cells #[.int .i64 0, .int .i64 0] 23)) (hi : M.nb[i]? = some (.cells #[.int .i64 (W : Int), .int .i64 (H : Int)] 23)) (h0 : M0.nb.size ≤ j) (hf : M.floor ≤ j) (b : Bool) :
    A12_3 (some ⟨2 * j, 0, none⟩) (some ⟨2 * i, 0, none⟩) b M (RqR M0 (if b then (0, 0, 4) else (W, H, 0))) := by
  refine w12_3 ⟨fun hb => ?_, fun hb => ?_⟩
  · obtain ⟨M1, p1, M2, p2, i1, i2, K2⟩ := fin2 K hj h0 hf 0 0
    subst hb
    exact ⟨_, rfl, M1, p1, M2, p2, _, rfl, 0, i1, 0, i2, rfl, K2⟩
  · obtain ⟨M1, p1, M2, p2, i1, i2, K2⟩ := fin2 K hj h0 hf (W : Int) (H : Int)
    subst hb
    exact ⟨_, rfl, _, int_of (i := 0) hi rfl, _, int_of (i := 0 + 1) hi rfl, _, rfl, M1, p1, M2, p2, _, rfl, _, i1, _, i2, rfl, K2⟩
theorem e12_2 {S : Nat → Prop} {M0 M : Mem} {j i r : Nat} {W H : Nat} {b : List Nat} (K : Keep M0 M) (hj : M.nb[j]? = some (.cells #[.int .i64 0, .int .i64 0] 23)) (hi : M.nb[i]? = some (.cells #[.int .i64 (W : Int), .int .i64 (H : Int)] 23)) (h0 : M0.nb.size ≤ j) (hf : M.floor ≤ j)
    (hr : Rdr S M r b 14) (hr0 : M0.nb.size ≤ r) (hrf : M.floor ≤ r) (hjr : j ≠ r) (hir : i ≠ r) (hB : Byt b) (h2 : 2 ≤ b.length) (g : Bool) :
    A12_2 (some ⟨2 * j, 0, none⟩) (some ⟨2 * r, 0, none⟩) (some ⟨2 * i, 0, none⟩) g M (RqR M0 (if g then (0, 0, 5) else if seqW b % 4 ≠ 0 ∨ b.length > 2 then (0, 0, 4) else (W, H, 0))) := by
  refine w12_2 ⟨fun hb => ?_, fun hb => ?_⟩
  · obtain ⟨M1, p1, M2, p2, i1, i2, K2⟩ := fin2 K hj h0 hf 0 0
    subst hb
    exact ⟨_, rfl, M1, p1, M2, p2, _, rfl, 0, i1, 0, i2, rfl, K2⟩
  · subst hb
    rw [if_neg (by decide)]
    have hl := hr.len
    refine Cn.mono (c40 hr hrf) ?_
    rintro _ N ⟨rfl, C, sz, hr2⟩
    have e : rAlign b 14 = if seqW b % 4 ≠ 0 then (4, 14) else (0, 16) := by
      unfold rAlign
      simp only [Nat.reduceMod, Nat.reduceSub, (bits7 hB).2.2, Nat.reduceAdd]
    rw [e] at hr2 ⊢
    have KK := Keep.step K C fun i hi => by omega
    have hj2 := at_chg hj C hjr
    have hi2 := at_chg hi C hir
    have f2 : N.floor ≤ j := by rw [C.floor]; exact hf
    refine ⟨_, rfl, fun h => ?_, fun h => ?_⟩
    · by_cases h4 : seqW b % 4 ≠ 0
      · rw [if_pos (.inl h4)]; exact e12_3 KK hj2 hi2 h0 f2 true
      · rw [if_neg h4] at h; exact absurd rfl h
    · by_cases h4 : seqW b % 4 ≠ 0
      · rw [if_pos h4] at h; cases h
      · rw [if_neg h4] at hr2
        refine Cn.eq (c37 hr2) ⟨_, rfl, ?_⟩
        have e2 : (if seqW b % 4 ≠ 0 ∨ b.length > 2 then ((0, 0, 4) : Nat × Nat × Nat) else (W, H, 0)) = if decide (((8 * b.length - 16 : Nat) : Int) > 0) = true then (0, 0, 4) else (W, H, 0) := by
          by_cases hl2 : b.length > 2
          · rw [if_pos (.inr hl2), if_pos (by rw [decide_eq_true_eq]; omega)]
          · rw [if_neg (by omega), if_neg (by rw [decide_eq_true_eq]; omega)]
        rw [e2]
        exact e12_3 KK hj2 hi2 h0 f2 _
theorem c12 {M : Mem} {A : Option Addr} {l c : Nat} {b : List Nat} (hf : M.floor ≤ M.nb.size) (hR : Row M A (U8 b)) (hl : l = b.length) (hB : Byt b) (hb : b.length ≤ 4294967296) : Cn Try.prog 12 #[.slice A l c] M (RqR M (rdS b)) := by
  have a := Mem.new_at M (.cells #[.int .i64 0, .int .i64 0] 23)
  have K : Keep M (M.new (.cells #[.int .i64 0, .int .i64 0] 23)) := .new _ _
  have sz := Mem.new_size M (.cells #[.int .i64 0, .int .i64 0] 23)
  refine w12_0 ?_
  generalize M.new (.cells #[.int .i64 0, .int .i64 0] 23) = N at a K sz ⊢
  have fN : N.floor ≤ M.nb.size := by rw [K.floor]; exact hf
  refine Cn.mono (c31 (by omega) (hR.keep K) hl.symm (by omega) hB) ?_
  rintro _ N1 ⟨r, rfl, K1, hr0, hr1, hr⟩
  have a1 := at_keep a K1
  have ns := Mem.new_at N1 (.cells #[.int .i64 0, .int .i64 0] 78)
  have K2 : Keep N1 (N1.new (.cells #[.int .i64 0, .int .i64 0] 78)) := .new _ _
  have sz1 := K1.size
  refine ⟨_, rfl, ?_⟩
  generalize N1.new (.cells #[.int .i64 0, .int .i64 0] 78) = N2 at ns K2 ⊢
  have a2 := at_keep a1 K2
  have hr2 := hr.keep K2
  have KK := (K.trans K1).trans K2
  have f2 : N2.floor ≤ M.nb.size := by rw [KK.floor]; exact hf
  refine Cn.eq (c37 hr2) ⟨_, rfl, fun h => ?_, fun h => ?_⟩
  · obtain ⟨M1, p1, M2, p2, i1, i2, K2⟩ := fin2 KK a2 (Nat.le_refl _) f2 0 0
    have e : rdS b = (0, 0, 3) := by unfold rdS; rw [if_pos (by omega)]
    rw [e]
    exact ⟨M1, p1, M2, p2, 0, i1, 0, i2, rfl, K2⟩
  · have l2 : 2 ≤ b.length := by omega
    obtain ⟨q1, q2, q3⟩ := bits7 hB
    have b0 := seqb hB 0
    have b1 := seqb hB 1
    have nW : seqW b < 65536 := by unfold seqW; omega
    have f1 : rFixed b 0 7 = (seqW b / 512, 0, 7) := by
      unfold rFixed; rw [if_neg (by omega), if_neg (by omega), ← q1]; rfl
    have f7 : rFixed b 7 7 = (seqW b / 4 % 128, 0, 14) := by
      unfold rFixed; rw [if_neg (by omega), if_neg (by omega), ← q2]; rfl
    have wr : ∀ x : Nat, x < 128 → IntKind.i64.wrap (16 + (IntKind.i64.wrap (2 * (IntKind.i64.wrap ((x : Nat) : Int))))) = ((16 + 2 * x : Nat) : Int) := fun x hx => by
      rw [i64w (x := ((x : Nat) : Int)) (by omega), i64w (x := 2 * ((x : Nat) : Int)) (by omega), i64w (by omega)]; omega
    refine w12_1 ⟨fun _ => Cn.mono (c33 hr2 (by omega) 7) ?_, fun h => absurd (by decide) h⟩
    rw [f1]
    rintro _ N3 ⟨rfl, C3, s3, hr3⟩
    have ns3 := at_chg ns C3 (by omega)
    have a3 := at_chg a2 C3 (by omega)
    have K3 := Keep.step KK C3 fun i hi => by omega
    obtain ⟨N4, p4, C4, s4, ns4⟩ := put1 0 (.int .i64 ((16 + 2 * (seqW b / 512) : Nat) : Int)) ns3 (by rw [K3.floor]; omega) (by decide) rfl
    have a4 := at_chg a3 C4 (by omega)
    have K4 := Keep.step K3 C4 fun i hi => by omega
    have hr4 := hr3.chg C4 (by omega) fun i hi => by omega
    refine ⟨_, rfl, _, rfl, _, rfl, fun h => absurd rfl h, fun _ => ⟨⟨2 * N1.nb.size, 0, none⟩, by kernel_rfl, N4, by rw [wr _ (by omega)]; exact p4, ?_⟩⟩
    refine w12_1 ⟨fun _ => Cn.mono (c33 hr4 (by rw [K4.floor]; omega) 7) ?_, fun h => absurd (by decide) h⟩
    rw [f7]
    rintro _ N5 ⟨rfl, C5, s5, hr5⟩
    have ns5 := at_chg ns4 C5 (by omega)
    have a5 := at_chg a4 C5 (by omega)
    have K5 := Keep.step K4 C5 fun i hi => by omega
    obtain ⟨N6, p6, C6, s6, ns6⟩ := put1 1 (.int .i64 ((16 + 2 * (seqW b / 4 % 128) : Nat) : Int)) ns5 (by rw [K5.floor]; omega) (by simp) rfl
    have a6 := at_chg a5 C6 (by omega)
    have K6 := Keep.step K5 C6 fun i hi => by omega
    have hr6 := hr5.chg C6 (by omega) fun i hi => by omega
    refine ⟨_, rfl, _, rfl, _, rfl, fun h => absurd rfl h, fun _ => ⟨⟨2 * N1.nb.size, 1, none⟩, by kernel_rfl, N6, by rw [wr _ (by omega)]; exact p6, ?_⟩⟩
    refine w12_1 ⟨fun h => absurd h (by decide), fun _ => ⟨⟨2 * N1.nb.size, 0, none⟩, by kernel_rfl, _, int_of (i := 0) ns6 rfl, ⟨2 * N1.nb.size, 1, none⟩, by kernel_rfl, _, int_of (i := 1) ns6 rfl, ?_⟩⟩
    have a7 := Mem.new_at N6 (.cells #[.int .i64 0, .int .i64 0] 23)
    have K7 : Keep N6 (N6.new (.cells #[.int .i64 0, .int .i64 0] 23)) := .new _ _
    generalize N6.new (.cells #[.int .i64 0, .int .i64 0] 23) = N7 at a7 K7 ⊢
    have s26 := K2.size
    have s45 := C4.size
    have s67 := C6.size
    have s35 := C3.size
    have s55 := C5.size
    have fl : N7.floor ≤ M.nb.size := by rw [K7.floor, K6.floor]; exact hf
    obtain ⟨M1, p1, M2, p2, C, u⟩ := set2s a7 (by omega) ((16 + 2 * (seqW b / 512) : Nat) : Int) ((16 + 2 * (seqW b / 4 % 128) : Nat) : Int)
    have KK7 : Keep M M2 := Keep.step (K6.trans K7) C fun i hi => by omega
    have aj := at_chg (at_keep a6 K7) C (by omega)
    have hr7 := (hr6.keep K7).chg C (by omega) fun i hi => by omega
    have fj : M2.floor ≤ M.nb.size := by rw [KK7.floor]; exact hf
    have e : rdS b = if decide (16 + 2 * (seqW b / 512) > 256 ∨ 16 + 2 * (seqW b / 4 % 128) > 256) = true then (0, 0, 5) else if seqW b % 4 ≠ 0 ∨ b.length > 2 then (0, 0, 4) else (16 + 2 * (seqW b / 512), 16 + 2 * (seqW b / 4 % 128), 0) := by
      unfold rdS; rw [if_neg (by omega)]; simp only [decide_eq_true_eq]; rfl
    rw [e]
    refine ⟨M1, p1, M2, p2, _, int_of (i := 0) u rfl, fun h5 => ?_, fun h5 => ⟨_, int_of (i := 0 + 1) u rfl, ?_⟩⟩
    · have := e12_2 KK7 aj u (Nat.le_refl _) fj hr7 (by omega) (by omega) (by omega) (by omega) hB l2 true
      rw [decide_eq_true (by omega)]; exact this
    · have := e12_2 KK7 aj u (Nat.le_refl _) fj hr7 (by omega) (by omega) (by omega) (by omega) hB l2 (decide (((16 + 2 * (seqW b / 4 % 128) : Nat) : Int) > 256))
      have ed : decide (16 + 2 * (seqW b / 512) > 256 ∨ 16 + 2 * (seqW b / 4 % 128) > 256) = decide (((16 + 2 * (seqW b / 4 % 128) : Nat) : Int) > 256) := by rw [decide_eq_decide]; omega
      rw [ed]; exact this
end Go.Zt


/- The functions' walks: for each function and each loop a rule of what it comes to. Printed by zw.py. -/
set_option linter.unusedVariables false
set_option maxRecDepth 100000
namespace Go.Zt
open Go Go.Sim Go.Proofs

variable {g0 g1 g2 g3 g4 g5 g6 g7 g8 g9 g10 g11 g12 g13 g14 g15 g16 g17 g18 g19 g20 g21 g22 g23 g24 g25 g26 g27 g28 g29 g30 g31 g32 g33 g34 g35 g36 g37 g38 g39 g40 g41 g42 g43 g44 g45 g46 g47 g48 g49 g50 g51 g52 g53 g54 g55 g56 g57 g58 g59 g60 g61 g62 g63 g64 g65 g66 g67 g68 : Value}
/-! ### zoetrope/zoetropelaw20.HeadsSeqs: function 3 -/
noncomputable abbrev P3 (p : List Nat) : Code := subC (codeOf Try.f3) p
theorem d3 : Try.f3.body = some (P3 []) := by kernel_rfl
theorem t3 {x0_0 x0_1 : Int} {Ax1 : Option Addr} {lx1 cx1 : Nat} : #[.agg #[.int .i64 x0_0, .int .i64 x0_1],.slice Ax1 lx1 cx1] ++ Array.replicate (Try.f3.ntmps - (#[.agg #[.int .i64 x0_0, .int .i64 x0_1],.slice Ax1 lx1 cx1] : Array Value).size) undef = #[.agg #[.int .i64 x0_0, .int .i64 x0_1],.slice Ax1 lx1 cx1,undef,undef,undef,undef,undef,undef,undef,undef,undef,undef,undef,undef,undef,undef,undef,undef,undef,undef,undef,undef,undef,undef,undef,undef,undef,undef,undef,undef,undef,undef,undef,undef,undef,undef,undef,undef,undef,undef,undef,undef,undef,undef,undef,undef,undef,undef,undef,undef,undef,undef,undef,undef,undef,undef,undef,undef,undef,undef,undef,undef,undef,undef,undef,undef,undef,undef,undef] := by kernel_rfl
end Go.Zt


/- Layer 20: HeadsSeqs: which sequence headers may be, their bytes, and what bytes say. -/
set_option linter.unusedSimpArgs false
set_option linter.unusedVariables false
set_option maxRecDepth 100000
namespace Go.Zt
open Go Go.Sim Go.Proofs Go.RowKit

theorem wf_u8 {x : Int} (h : (Lit.int .u8 x).wf = true) : 0 ≤ x ∧ x < 256 := by
  simp [Lit.wf, IntKind.min, IntKind.max, IntKind.signed, IntKind.bits] at h
  omega
theorem wf_i64 {x : Int} (h : (Lit.int .i64 x).wf = true) : -9223372036854775808 ≤ x ∧ x ≤ 9223372036854775807 := by
  simp [Lit.wf, IntKind.min, IntKind.max, IntKind.signed, IntKind.bits] at h
  omega
theorem sees_bytes {M : Mem} {B k : Nat} {r : List Value} (h : Sees Try.prog M B (k + 2) 24 r) : ∃ A n c, ∃ b : List Nat, r = [.slice A n c] ∧ n = b.length ∧ n ≤ c ∧ n ≤ B ∧ Old A ∧ Row M A (U8 b) ∧ Byt b ∧ (A = none → c = 0) := by
  obtain ⟨A, n, c, l, rfl, h1, h2, h3, h4, h5, h6, h7⟩ := sees_slice (f := fun x : Nat => [Value.int .u8 (x : Int)]) (good := fun x => x < 256) (e := 5) (by kernel_rfl) h fun r hr => by
    obtain ⟨x, rfl, hw⟩ := sees_int (q := .u8) (by kernel_rfl) hr
    have := wf_u8 hw
    exact ⟨x.toNat, by congr 2; omega, by omega⟩
  rw [flatMap_one fun x : Nat => Value.int .u8 (x : Int)] at h6
  exact ⟨A, n, c, l, rfl, h1, h2, h3, h5, h6, h7, h4⟩
theorem sees_seq {M : Mem} {B k : Nat} {r : List Value} (h : Sees Try.prog M B (k + 2) 23 r) : ∃ x y, r = [.int .i64 x, .int .i64 y] ∧ (-9223372036854775808 ≤ x ∧ x ≤ 9223372036854775807) ∧ (-9223372036854775808 ≤ y ∧ y ≤ 9223372036854775807) := by
  obtain ⟨h1, h2⟩ := sees_struct (l := [(0, 3), (1, 3)]) (n := 2) (by kernel_rfl) (by kernel_rfl) h
  match r, h1 with
  | [a, b], _ =>
    obtain ⟨x, e1, x1⟩ := sees_int (q := .i64) (by kernel_rfl) (h2 (0, 3) (by simp))
    obtain ⟨y, e2, y1⟩ := sees_int (q := .i64) (by kernel_rfl) (h2 (1, 3) (by simp))
    have hc : Try.prog.cellsOf 3 = 1 := by kernel_rfl
    rw [hc] at e1 e2
    simp at e1 e2
    exact ⟨x, y, by rw [e1, e2], wf_i64 x1, wf_i64 y1⟩
end Go.Zt


/- The functions' walks: for each function and each loop a rule of what it comes to. Printed by zw2.py. -/
set_option linter.unusedVariables false
set_option maxRecDepth 100000
namespace Go.Zt
open Go Go.Sim Go.Proofs

def tyZlB0 : List Sc := [.bool, .int .i64, .bool, .bool, .int .i64, .int .i64, .int .i64, .int .i64, .int .i64, .int .i64, .int .i64, .int .i64, .int .i64, .int .i64, .int .i64, .int .i64, .int .i64, .bool, .int .i64, .int .i64, .int .i64, .int .i64, .int .i64, .bool, .int .i64, .int .i64, .sl, .bool, .bool, .bool]
/-! ### zoetrope/heads.Check: function 26 -/
def K26 : List (List It × List Nat) := [([.code [1,1,1]], [2, 5]), ([.rg [1,1,0,1,1] 7, .code [1,1,1]], [2, 3, 31]), ([.code [1,1,1,0,1,0,0], .lp [1,1,1,0,1,0,0], .blk 0, .code [1,1,1,1]], [2, 5, 81, 82]), ([.rg [1,1,0,1,1] 12, .code [1,1,1]], [2, 3, 36]), ([.blk 1, .code [1,1,1,0,1,0,0,1,1,1], .lp [1,1,1,0,1,0,0], .blk 0, .code [1,1,1,1]], [2, 5, 81, 82]), ([.code [1,1,1,1,0,1,0,0], .lp [1,1,1,1,0,1,0,0], .blk 2, .code [1,1,1,1,1]], [5, 92, 93]), ([.rg [1,1,0,1,1] 17, .code [1,1,1]], [2, 3, 41]), ([.code [1,1,1,0,1,0,0,1,1,1], .lp [1,1,1,0,1,0,0], .blk 0, .code [1,1,1,1]], [2, 5, 81, 82]), ([.blk 3, .code [1,1,1,1,0,1,0,0,1,1,1], .lp [1,1,1,1,0,1,0,0], .blk 2, .code [1,1,1,1,1]], [5, 92, 93]), ([.rg [1,1,0,1,1] 22, .code [1,1,1]], [2, 3, 46]), ([.code [1,1,1,1,0,1,0,0,1,1,1], .lp [1,1,1,1,0,1,0,0], .blk 2, .code [1,1,1,1,1]], [5, 92, 93]), ([.rg [1,1,0,1,1] 29, .code [1,1,1]], [2, 3, 53]), ([.rg [1,1,0,1,1] 36, .code [1,1,1]], [2, 60]), ([.rg [1,1,0,1,1] 40, .code [1,1,1]], [2, 64])]
def Z26 : List (List Nat × List Nat) := [([1,1,0,1,1], [7, 12, 17, 22, 29, 36, 40, 56])]
theorem b26 : Try.prog.funcs[26]? = some Try.f26 ∧ (Orc.tab Try.prog).lookup 26 = none ∧ Try.f26.body = some (codeOf Try.f26) := ⟨by kernel_rfl, by kernel_rfl, by kernel_rfl⟩
def A26_1 (x2 : Option Addr) (x5 : Bool) (M : Mem) (Q : Value → Mem → Prop) : Prop := LvP Try.prog Try.f26 [(2, .pointer x2), (5, .bool x5)] [.code [1,1,1]] M Q
def A26_2 (x2 x3 : Option Addr) (x31 : Bool) (M : Mem) (Q : Value → Mem → Prop) : Prop := LvP Try.prog Try.f26 [(2, .pointer x2), (3, .pointer x3), (31, .bool x31)] [.rg [1,1,0,1,1] 7, .code [1,1,1]] M Q
def A26_3 (x2 : Option Addr) (x5 : Bool) (x81_0 x81_1 x81_2 x82 : Int) (M : Mem) (Q : Value → Mem → Prop) : Prop := LvP Try.prog Try.f26 [(2, .pointer x2), (5, .bool x5), (81, .agg #[.int .i64 x81_0, .int .i64 x81_1, .int .i64 x81_2]), (82, .int .i64 x82)] [.code [1,1,1,0,1,0,0], .lp [1,1,1,0,1,0,0], .blk 0, .code [1,1,1,1]] M Q
def A26_4 (x2 x3 : Option Addr) (x36 : Bool) (M : Mem) (Q : Value → Mem → Prop) : Prop := LvP Try.prog Try.f26 [(2, .pointer x2), (3, .pointer x3), (36, .bool x36)] [.rg [1,1,0,1,1] 12, .code [1,1,1]] M Q
def A26_5 (x2 : Option Addr) (x5 : Bool) (x81_0 x81_1 x81_2 x82 : Int) (M : Mem) (Q : Value → Mem → Prop) : Prop := LvP Try.prog Try.f26 [(2, .pointer x2), (5, .bool x5), (81, .agg #[.int .i64 x81_0, .int .i64 x81_1, .int .i64 x81_2]), (82, .int .i64 x82)] [.blk 1, .code [1,1,1,0,1,0,0,1,1,1], .lp [1,1,1,0,1,0,0], .blk 0, .code [1,1,1,1]] M Q
def A26_6 (x5 : Bool) (x92_0 x92_1 x92_2 x92_3 x92_4 x93 : Int) (M : Mem) (Q : Value → Mem → Prop) : Prop := LvP Try.prog Try.f26 [(5, .bool x5), (92, .agg #[.int .i64 x92_0, .int .i64 x92_1, .int .i64 x92_2, .int .i64 x92_3, .int .i64 x92_4]), (93, .int .i64 x93)] [.code [1,1,1,1,0,1,0,0], .lp [1,1,1,1,0,1,0,0], .blk 2, .code [1,1,1,1,1]] M Q
def A26_7 (x2 x3 : Option Addr) (x41 : Bool) (M : Mem) (Q : Value → Mem → Prop) : Prop := LvP Try.prog Try.f26 [(2, .pointer x2), (3, .pointer x3), (41, .bool x41)] [.rg [1,1,0,1,1] 17, .code [1,1,1]] M Q
def A26_8 (x2 : Option Addr) (x5 : Bool) (x81_0 x81_1 x81_2 x82 : Int) (M : Mem) (Q : Value → Mem → Prop) : Prop := LvP Try.prog Try.f26 [(2, .pointer x2), (5, .bool x5), (81, .agg #[.int .i64 x81_0, .int .i64 x81_1, .int .i64 x81_2]), (82, .int .i64 x82)] [.code [1,1,1,0,1,0,0,1,1,1], .lp [1,1,1,0,1,0,0], .blk 0, .code [1,1,1,1]] M Q
def A26_9 (x5 : Bool) (x92_0 x92_1 x92_2 x92_3 x92_4 x93 : Int) (M : Mem) (Q : Value → Mem → Prop) : Prop := LvP Try.prog Try.f26 [(5, .bool x5), (92, .agg #[.int .i64 x92_0, .int .i64 x92_1, .int .i64 x92_2, .int .i64 x92_3, .int .i64 x92_4]), (93, .int .i64 x93)] [.blk 3, .code [1,1,1,1,0,1,0,0,1,1,1], .lp [1,1,1,1,0,1,0,0], .blk 2, .code [1,1,1,1,1]] M Q
def A26_10 (x2 x3 : Option Addr) (x46 : Bool) (M : Mem) (Q : Value → Mem → Prop) : Prop := LvP Try.prog Try.f26 [(2, .pointer x2), (3, .pointer x3), (46, .bool x46)] [.rg [1,1,0,1,1] 22, .code [1,1,1]] M Q
def A26_11 (x5 : Bool) (x92_0 x92_1 x92_2 x92_3 x92_4 x93 : Int) (M : Mem) (Q : Value → Mem → Prop) : Prop := LvP Try.prog Try.f26 [(5, .bool x5), (92, .agg #[.int .i64 x92_0, .int .i64 x92_1, .int .i64 x92_2, .int .i64 x92_3, .int .i64 x92_4]), (93, .int .i64 x93)] [.code [1,1,1,1,0,1,0,0,1,1,1], .lp [1,1,1,1,0,1,0,0], .blk 2, .code [1,1,1,1,1]] M Q
def A26_12 (x2 x3 : Option Addr) (x53 : Bool) (M : Mem) (Q : Value → Mem → Prop) : Prop := LvP Try.prog Try.f26 [(2, .pointer x2), (3, .pointer x3), (53, .bool x53)] [.rg [1,1,0,1,1] 29, .code [1,1,1]] M Q
def A26_13 (x2 : Option Addr) (x60 : Bool) (M : Mem) (Q : Value → Mem → Prop) : Prop := LvP Try.prog Try.f26 [(2, .pointer x2), (60, .bool x60)] [.rg [1,1,0,1,1] 36, .code [1,1,1]] M Q
def A26_14 (x2 : Option Addr) (x64 : Bool) (M : Mem) (Q : Value → Mem → Prop) : Prop := LvP Try.prog Try.f26 [(2, .pointer x2), (64, .bool x64)] [.rg [1,1,0,1,1] 40, .code [1,1,1]] M Q
theorem w26_0 {x0 : Array Value} {x1_0 x1_1 : Int} {M : Mem} {Q : Value → Mem → Prop} (H :
    onS (((M.new (.cells x0 41)).new (.cells #[.int .i64 x1_0, .int .i64 x1_1] 23)).intAt .i64 (2 * (M.new (.cells x0 41)).nb.size) 0) fun x1' =>
    onS (((M.new (.cells x0 41)).new (.cells #[.int .i64 x1_0, .int .i64 x1_1] 23)).intAt .i64 (2 * (M.new (.cells x0 41)).nb.size) (0 + 1)) fun x2' =>
    Cn Try.prog 14 #[.agg #[.int .i64 x1', .int .i64 x2']] ((M.new (.cells x0 41)).new (.cells #[.int .i64 x1_0, .int .i64 x1_1] 23)) fun v3' N3' =>
     tyS (asI .i64 v3') fun x4' =>
     onS (N3'.boolAt (2 * M.nb.size) 0) fun b5' =>
     cnd b5' (
      cnd (x4' == 0) (
       onS (N3'.intAt .i64 (2 * M.nb.size) (0 + 1)) fun x6' =>
       Cn Try.prog 55 #[.int .i64 x6', .int .i64 0, .int .i64 7] N3' fun v7' N7' =>
        tyS (asB v7') fun b8' =>
        cnd b8' (
         ldP tyZlB0 N7' (2 * M.nb.size) 0 fun vs9' =>
         Cn Try.prog 56 #[.agg vs9'.toArray] N7' fun v10' N10' =>
          tyS (asB v10') fun b11' =>
          A26_1 (some ⟨2 * M.nb.size, 0, none⟩) b11' N10' Q) (
         A26_1 (some ⟨2 * M.nb.size, 0, none⟩) false N7' Q)) (
       A26_1 (some ⟨2 * M.nb.size, 0, none⟩) false N3' Q)) (
      cnd (x4' == 0) (
       onS (N3'.intAt .i64 (2 * M.nb.size) (0 + 1)) fun x12' =>
       A26_2 (some ⟨2 * M.nb.size, 0, none⟩) (some ⟨2 * (M.new (.cells x0 41)).nb.size, 0, none⟩) (x12' == 0) N3' Q) (
       A26_2 (some ⟨2 * M.nb.size, 0, none⟩) (some ⟨2 * (M.new (.cells x0 41)).nb.size, 0, none⟩) false N3' Q))) :
    Cn Try.prog 26 #[.agg x0, .agg #[.int .i64 x1_0, .int .i64 x1_1]] M Q :=
  Cn.mk (cuts := K26) (sp := Z26) 900 b26 rfl rfl H fun G => by kernel_rfl

theorem w26_1 {x2 : Option Addr} {x5 : Bool} {M : Mem} {Q : Value → Mem → Prop} (H :
    adS x2 fun a13' =>
    onS (M.intAt .i64 a13'.block (a13'.off + 5)) fun x14' =>
    onS (M.intAt .i64 a13'.block (a13'.off + 6)) fun x15' =>
    onS (M.intAt .i64 a13'.block (a13'.off + 7)) fun x16' =>
    A26_3 x2 x5 x14' x15' x16' 0 M Q) :
    A26_1 x2 x5 M Q :=
  LvP.mk (cuts := K26) (sp := Z26) 900 H fun G => by kernel_rfl

theorem w26_2 {x2 x3 : Option Addr} {x31 : Bool} {M : Mem} {Q : Value → Mem → Prop} (H :
    cnd x31 (
     adS x2 fun a17' =>
     onS (M.intAt .i64 a17'.block (a17'.off + 4)) fun x18' =>
     Cn Try.prog 55 #[.int .i64 x18', .int .i64 0, .int .i64 255] M fun v19' N19' =>
      tyS (asB v19') fun b20' =>
      A26_4 x2 x3 b20' N19' Q) (
     A26_4 x2 x3 false M Q)) :
    A26_2 x2 x3 x31 M Q :=
  LvP.mk (cuts := K26) (sp := Z26) 900 H fun G => by kernel_rfl

theorem w26_3 {x2 : Option Addr} {x5 : Bool} {x81_0 x81_1 x81_2 x82 : Int} {M : Mem} {Q : Value → Mem → Prop} (H :
    cnd (decide (x82 < 3)) (
     puS (strV Try.prog 35 (.agg #[.int .i64 x81_0, .int .i64 x81_1, .int .i64 x81_2]) (.int .i64 x82)) fun v21' =>
     tyS (asI .i64 v21') fun x22' =>
     cnd x5 (
      Cn Try.prog 55 #[.int .i64 x22', .int .i64 0, .int .i64 7] M fun v23' N23' =>
       tyS (asB v23') fun b24' =>
       A26_5 x2 b24' x81_0 x81_1 x81_2 x82 N23' Q) (
      A26_5 x2 false x81_0 x81_1 x81_2 x82 M Q)) (
     adS x2 fun a25' =>
     onS (M.intAt .i64 a25'.block (a25'.off + 10)) fun x26' =>
     onS (M.intAt .i64 a25'.block (a25'.off + 11)) fun x27' =>
     onS (M.intAt .i64 a25'.block (a25'.off + 12)) fun x28' =>
     onS (M.intAt .i64 a25'.block (a25'.off + 13)) fun x29' =>
     onS (M.intAt .i64 a25'.block (a25'.off + 14)) fun x30' =>
     A26_6 x5 x26' x27' x28' x29' x30' 0 M Q)) :
    A26_3 x2 x5 x81_0 x81_1 x81_2 x82 M Q :=
  LvP.mk (cuts := K26) (sp := Z26) 900 H fun G => by kernel_rfl

theorem w26_4 {x2 x3 : Option Addr} {x36 : Bool} {M : Mem} {Q : Value → Mem → Prop} (H :
    cnd x36 (
     adS x2 fun a31' =>
     onS (M.intAt .i64 a31'.block (a31'.off + 8)) fun x32' =>
     Cn Try.prog 55 #[.int .i64 x32', .int .i64 (-1), .int .i64 7] M fun v33' N33' =>
      tyS (asB v33') fun b34' =>
      A26_7 x2 x3 b34' N33' Q) (
     A26_7 x2 x3 false M Q)) :
    A26_4 x2 x3 x36 M Q :=
  LvP.mk (cuts := K26) (sp := Z26) 900 H fun G => by kernel_rfl

theorem w26_5 {x2 : Option Addr} {x5 : Bool} {x81_0 x81_1 x81_2 x82 : Int} {M : Mem} {Q : Value → Mem → Prop} (H :
    A26_8 x2 x5 x81_0 x81_1 x81_2 x82 M Q) :
    A26_5 x2 x5 x81_0 x81_1 x81_2 x82 M Q :=
  LvP.mk (cuts := K26) (sp := Z26) 900 H fun G => by kernel_rfl

theorem w26_6 {x5 : Bool} {x92_0 x92_1 x92_2 x92_3 x92_4 x93 : Int} {M : Mem} {Q : Value → Mem → Prop} (H :
    cnd (decide (x93 < 5)) (
     puS (strV Try.prog 36 (.agg #[.int .i64 x92_0, .int .i64 x92_1, .int .i64 x92_2, .int .i64 x92_3, .int .i64 x92_4]) (.int .i64 x93)) fun v35' =>
     tyS (asI .i64 v35') fun x36' =>
     cnd x5 (
      Cn Try.prog 55 #[.int .i64 x36', .int .i64 (-31), .int .i64 31] M fun v37' N37' =>
       tyS (asB v37') fun b38' =>
       A26_9 b38' x92_0 x92_1 x92_2 x92_3 x92_4 x93 N37' Q) (
      A26_9 false x92_0 x92_1 x92_2 x92_3 x92_4 x93 M Q)) (
     cnd (!x5) (
      Q (.int .i64 2) M) (
      Q (.int .i64 0) M))) :
    A26_6 x5 x92_0 x92_1 x92_2 x92_3 x92_4 x93 M Q :=
  LvP.mk (cuts := K26) (sp := Z26) 900 H fun G => by kernel_rfl

theorem w26_7 {x2 x3 : Option Addr} {x41 : Bool} {M : Mem} {Q : Value → Mem → Prop} (H :
    cnd x41 (
     adS x2 fun a39' =>
     onS (M.intAt .i64 a39'.block (a39'.off + 9)) fun x40' =>
     Cn Try.prog 55 #[.int .i64 x40', .int .i64 0, .int .i64 255] M fun v41' N41' =>
      tyS (asB v41') fun b42' =>
      A26_10 x2 x3 b42' N41' Q) (
     A26_10 x2 x3 false M Q)) :
    A26_7 x2 x3 x41 M Q :=
  LvP.mk (cuts := K26) (sp := Z26) 900 H fun G => by kernel_rfl

theorem w26_8 {x2 : Option Addr} {x5 : Bool} {x81_0 x81_1 x81_2 x82 : Int} {M : Mem} {Q : Value → Mem → Prop} (H :
    A26_3 x2 x5 x81_0 x81_1 x81_2 (IntKind.i64.wrap (x82 + 1)) M Q) :
    A26_8 x2 x5 x81_0 x81_1 x81_2 x82 M Q :=
  LvP.mk (cuts := K26) (sp := Z26) 900 H fun G => by kernel_rfl

theorem w26_9 {x5 : Bool} {x92_0 x92_1 x92_2 x92_3 x92_4 x93 : Int} {M : Mem} {Q : Value → Mem → Prop} (H :
    A26_11 x5 x92_0 x92_1 x92_2 x92_3 x92_4 x93 M Q) :
    A26_9 x5 x92_0 x92_1 x92_2 x92_3 x92_4 x93 M Q :=
  LvP.mk (cuts := K26) (sp := Z26) 900 H fun G => by kernel_rfl

theorem w26_10 {x2 x3 : Option Addr} {x46 : Bool} {M : Mem} {Q : Value → Mem → Prop} (H :
    cnd x46 (
     adS x2 fun a43' =>
     onS (M.intAt .i64 a43'.block (a43'.off + 15)) fun x44' =>
     adS x3 fun a45' =>
     onS (M.intAt .i64 a45'.block a45'.off) fun x46' =>
     Cn Try.prog 57 #[.int .i64 x44', .int .i64 x46'] M fun v47' N47' =>
      tyS (asB v47') fun b48' =>
      A26_12 x2 x3 b48' N47' Q) (
     A26_12 x2 x3 false M Q)) :
    A26_10 x2 x3 x46 M Q :=
  LvP.mk (cuts := K26) (sp := Z26) 900 H fun G => by kernel_rfl

theorem w26_11 {x5 : Bool} {x92_0 x92_1 x92_2 x92_3 x92_4 x93 : Int} {M : Mem} {Q : Value → Mem → Prop} (H :
    A26_6 x5 x92_0 x92_1 x92_2 x92_3 x92_4 (IntKind.i64.wrap (x93 + 1)) M Q) :
    A26_11 x5 x92_0 x92_1 x92_2 x92_3 x92_4 x93 M Q :=
  LvP.mk (cuts := K26) (sp := Z26) 900 H fun G => by kernel_rfl

theorem w26_12 {x2 x3 : Option Addr} {x53 : Bool} {M : Mem} {Q : Value → Mem → Prop} (H :
    cnd x53 (
     adS x2 fun a49' =>
     onS (M.intAt .i64 a49'.block (a49'.off + 16)) fun x50' =>
     adS x3 fun a51' =>
     onS (M.intAt .i64 a51'.block (a51'.off + 1)) fun x52' =>
     Cn Try.prog 57 #[.int .i64 x50', .int .i64 x52'] M fun v53' N53' =>
      tyS (asB v53') fun b54' =>
      A26_13 x2 b54' N53' Q) (
     A26_13 x2 false M Q)) :
    A26_12 x2 x3 x53 M Q :=
  LvP.mk (cuts := K26) (sp := Z26) 900 H fun G => by kernel_rfl

theorem w26_13 {x2 : Option Addr} {x60 : Bool} {M : Mem} {Q : Value → Mem → Prop} (H :
    cnd x60 (
     adS x2 fun a55' =>
     ldP tyZlB0 M a55'.block a55'.off fun vs56' =>
     Cn Try.prog 58 #[.agg vs56'.toArray] M fun v57' N57' =>
      tyS (asB v57') fun b58' =>
      A26_14 x2 b58' N57' Q) (
     A26_14 x2 false M Q)) :
    A26_13 x2 x60 M Q :=
  LvP.mk (cuts := K26) (sp := Z26) 900 H fun G => by kernel_rfl

theorem w26_14 {x2 : Option Addr} {x64 : Bool} {M : Mem} {Q : Value → Mem → Prop} (H :
    cnd x64 (
     adS x2 fun a59' =>
     onS (M.boolAt a59'.block (a59'.off + 3)) fun b60' =>
     cnd (!b60') (
      A26_1 x2 true M Q) (
      adS x2 fun a61' =>
      onS (M.intAt .i64 a61'.block (a61'.off + 5)) fun x62' =>
      onS (M.intAt .i64 a61'.block (a61'.off + 6)) fun x63' =>
      onS (M.intAt .i64 a61'.block (a61'.off + 7)) fun x64' =>
      puS (binV Try.prog .eql 35 35 (.agg #[.int .i64 x62', .int .i64 x63', .int .i64 x64']) (.agg #[.int .i64 0, .int .i64 0, .int .i64 0])) fun v65' =>
      tyS (asB v65') fun b66' =>
      cnd b66' (
       adS x2 fun a67' =>
       onS (M.intAt .i64 a67'.block (a67'.off + 8)) fun x68' =>
       A26_1 x2 (x68' == (-1)) M Q) (
       A26_1 x2 false M Q))) (
     A26_1 x2 false M Q)) :
    A26_14 x2 x64 M Q :=
  LvP.mk (cuts := K26) (sp := Z26) 900 H fun G => by kernel_rfl


/-! ### zoetrope/heads.empty: function 56 -/
def K56 : List (List It × List Nat) := [([.rg [1,0] 9, .code [1,1]], [1, 11]), ([.rg [1,0] 14, .code [1,1]], [1, 16]), ([.rg [1,0] 20, .code [1,1]], [1, 22]), ([.rg [1,0] 25, .code [1,1]], [1, 27]), ([.rg [1,0] 29, .code [1,1]], [1, 31]), ([.rg [1,0] 34, .code [1,1]], [1, 36]), ([.rg [1,0] 39, .code [1,1]], [1, 41]), ([.rg [1,0] 44, .code [1,1]], [1, 46])]
def Z56 : List (List Nat × List Nat) := [([1,0], [9, 14, 20, 25, 29, 34, 39, 44, 48])]
theorem b56 : Try.prog.funcs[56]? = some Try.f56 ∧ (Orc.tab Try.prog).lookup 56 = none ∧ Try.f56.body = some (codeOf Try.f56) := ⟨by kernel_rfl, by kernel_rfl, by kernel_rfl⟩
def A56_1 (x1 : Option Addr) (x11 : Bool) (M : Mem) (Q : Value → Mem → Prop) : Prop := LvP Try.prog Try.f56 [(1, .pointer x1), (11, .bool x11)] [.rg [1,0] 9, .code [1,1]] M Q
def A56_2 (x1 : Option Addr) (x16 : Bool) (M : Mem) (Q : Value → Mem → Prop) : Prop := LvP Try.prog Try.f56 [(1, .pointer x1), (16, .bool x16)] [.rg [1,0] 14, .code [1,1]] M Q
def A56_3 (x1 : Option Addr) (x22 : Bool) (M : Mem) (Q : Value → Mem → Prop) : Prop := LvP Try.prog Try.f56 [(1, .pointer x1), (22, .bool x22)] [.rg [1,0] 20, .code [1,1]] M Q
def A56_4 (x1 : Option Addr) (x27 : Bool) (M : Mem) (Q : Value → Mem → Prop) : Prop := LvP Try.prog Try.f56 [(1, .pointer x1), (27, .bool x27)] [.rg [1,0] 25, .code [1,1]] M Q
def A56_5 (x1 : Option Addr) (x31 : Bool) (M : Mem) (Q : Value → Mem → Prop) : Prop := LvP Try.prog Try.f56 [(1, .pointer x1), (31, .bool x31)] [.rg [1,0] 29, .code [1,1]] M Q
def A56_6 (x1 : Option Addr) (x36 : Bool) (M : Mem) (Q : Value → Mem → Prop) : Prop := LvP Try.prog Try.f56 [(1, .pointer x1), (36, .bool x36)] [.rg [1,0] 34, .code [1,1]] M Q
def A56_7 (x1 : Option Addr) (x41 : Bool) (M : Mem) (Q : Value → Mem → Prop) : Prop := LvP Try.prog Try.f56 [(1, .pointer x1), (41, .bool x41)] [.rg [1,0] 39, .code [1,1]] M Q
def A56_8 (x1 : Option Addr) (x46 : Bool) (M : Mem) (Q : Value → Mem → Prop) : Prop := LvP Try.prog Try.f56 [(1, .pointer x1), (46, .bool x46)] [.rg [1,0] 44, .code [1,1]] M Q
theorem w56_0 {x0 : Array Value} {M : Mem} {Q : Value → Mem → Prop} (H :
    onS ((M.new (.cells x0 41)).boolAt (2 * M.nb.size) (0 + 2)) fun b1' =>
    cnd (!b1') (
     onS ((M.new (.cells x0 41)).boolAt (2 * M.nb.size) (0 + 3)) fun b2' =>
     A56_1 (some ⟨2 * M.nb.size, 0, none⟩) (!b2') (M.new (.cells x0 41)) Q) (
     A56_1 (some ⟨2 * M.nb.size, 0, none⟩) false (M.new (.cells x0 41)) Q)) :
    Cn Try.prog 56 #[.agg x0] M Q :=
  Cn.mk (cuts := K56) (sp := Z56) 900 b56 rfl rfl H fun G => by kernel_rfl

theorem w56_1 {x1 : Option Addr} {x11 : Bool} {M : Mem} {Q : Value → Mem → Prop} (H :
    cnd x11 (
     adS x1 fun a3' =>
     onS (M.intAt .i64 a3'.block (a3'.off + 4)) fun x4' =>
     A56_2 x1 (x4' == 0) M Q) (
     A56_2 x1 false M Q)) :
    A56_1 x1 x11 M Q :=
  LvP.mk (cuts := K56) (sp := Z56) 900 H fun G => by kernel_rfl

theorem w56_2 {x1 : Option Addr} {x16 : Bool} {M : Mem} {Q : Value → Mem → Prop} (H :
    cnd x16 (
     adS x1 fun a5' =>
     onS (M.intAt .i64 a5'.block (a5'.off + 5)) fun x6' =>
     onS (M.intAt .i64 a5'.block (a5'.off + 6)) fun x7' =>
     onS (M.intAt .i64 a5'.block (a5'.off + 7)) fun x8' =>
     puS (binV Try.prog .eql 35 35 (.agg #[.int .i64 x6', .int .i64 x7', .int .i64 x8']) (.agg #[.int .i64 0, .int .i64 0, .int .i64 0])) fun v9' =>
     tyS (asB v9') fun b10' =>
     A56_3 x1 b10' M Q) (
     A56_3 x1 false M Q)) :
    A56_2 x1 x16 M Q :=
  LvP.mk (cuts := K56) (sp := Z56) 900 H fun G => by kernel_rfl

theorem w56_3 {x1 : Option Addr} {x22 : Bool} {M : Mem} {Q : Value → Mem → Prop} (H :
    cnd x22 (
     adS x1 fun a11' =>
     onS (M.intAt .i64 a11'.block (a11'.off + 8)) fun x12' =>
     A56_4 x1 (x12' == 0) M Q) (
     A56_4 x1 false M Q)) :
    A56_3 x1 x22 M Q :=
  LvP.mk (cuts := K56) (sp := Z56) 900 H fun G => by kernel_rfl

theorem w56_4 {x1 : Option Addr} {x27 : Bool} {M : Mem} {Q : Value → Mem → Prop} (H :
    cnd x27 (
     adS x1 fun a13' =>
     ldP tyZlB0 M a13'.block a13'.off fun vs14' =>
     Cn Try.prog 77 #[.agg vs14'.toArray] M fun v15' N15' =>
      tyS (asB v15') fun b16' =>
      A56_5 x1 b16' N15' Q) (
     A56_5 x1 false M Q)) :
    A56_4 x1 x27 M Q :=
  LvP.mk (cuts := K56) (sp := Z56) 900 H fun G => by kernel_rfl

theorem w56_5 {x1 : Option Addr} {x31 : Bool} {M : Mem} {Q : Value → Mem → Prop} (H :
    cnd x31 (
     adS x1 fun a17' =>
     onS (M.intAt .i64 a17'.block (a17'.off + 15)) fun x18' =>
     A56_6 x1 (x18' == 0) M Q) (
     A56_6 x1 false M Q)) :
    A56_5 x1 x31 M Q :=
  LvP.mk (cuts := K56) (sp := Z56) 900 H fun G => by kernel_rfl

theorem w56_6 {x1 : Option Addr} {x36 : Bool} {M : Mem} {Q : Value → Mem → Prop} (H :
    cnd x36 (
     adS x1 fun a19' =>
     onS (M.intAt .i64 a19'.block (a19'.off + 16)) fun x20' =>
     A56_7 x1 (x20' == 0) M Q) (
     A56_7 x1 false M Q)) :
    A56_6 x1 x36 M Q :=
  LvP.mk (cuts := K56) (sp := Z56) 900 H fun G => by kernel_rfl

theorem w56_7 {x1 : Option Addr} {x41 : Bool} {M : Mem} {Q : Value → Mem → Prop} (H :
    cnd x41 (
     adS x1 fun a21' =>
     onS (M.boolAt a21'.block (a21'.off + 17)) fun b22' =>
     A56_8 x1 (!b22') M Q) (
     A56_8 x1 false M Q)) :
    A56_7 x1 x41 M Q :=
  LvP.mk (cuts := K56) (sp := Z56) 900 H fun G => by kernel_rfl

theorem w56_8 {x1 : Option Addr} {x46 : Bool} {M : Mem} {Q : Value → Mem → Prop} (H :
    cnd x46 (
     adS x1 fun a23' =>
     ldP tyZlB0 M a23'.block a23'.off fun vs24' =>
     Cn Try.prog 58 #[.agg vs24'.toArray] M fun v25' N25' =>
      tyS (asB v25') fun b26' =>
      Q (.bool b26') N25') (
     Q (.bool false) M)) :
    A56_8 x1 x46 M Q :=
  LvP.mk (cuts := K56) (sp := Z56) 900 H fun G => by kernel_rfl


/-! ### zoetrope/heads.filtersMay: function 58 -/
def K58 : List (List It × List Nat) := [([.rg [1,1,1,0,0,1,0,0] 10, .code [1,1,1,0,0,1,0,1], .blk 0, .code [1,1,1,1]], [1, 27]), ([.code [1,1,1,0,0,1,1,1], .blk 0, .code [1,1,1,1]], [1, 54]), ([.rg [1,1,1,0,0,1,0,0] 15, .code [1,1,1,0,0,1,0,1], .blk 0, .code [1,1,1,1]], [1, 32]), ([.code [1,1,1,0,0,1,1,1,1,1], .blk 0, .code [1,1,1,1]], [1, 66]), ([.rg [1,1,1,0,0,1,0,0] 20, .code [1,1,1,0,0,1,0,1], .blk 0, .code [1,1,1,1]], [1, 37]), ([.code [1,1,1,0,0,1,1,1,1,1,1,1], .blk 0, .code [1,1,1,1]], [1, 81]), ([.rg [1,1,1,0,0,1,0,0] 25, .code [1,1,1,0,0,1,0,1], .blk 0, .code [1,1,1,1]], [1, 42]), ([.code [1,1,1,1,0,1,0,0], .lp [1,1,1,1,0,1,0,0], .blk 1, .code [1,1,1,1,1]], [1, 96, 97]), ([.rg [1,1,1,0,0,1,0,0] 31, .code [1,1,1,0,0,1,0,1], .blk 0, .code [1,1,1,1]], [1, 48]), ([.code [1,1,1,1,1,0,1,0,0], .lp [1,1,1,1,1,0,1,0,0], .blk 3, .code [1,1,1,1,1,1]], [105, 106, 107])]
def Z58 : List (List Nat × List Nat) := [([1,1,1,0,0,1,0,0], [10, 15, 20, 25, 31, 37])]
theorem b58 : Try.prog.funcs[58]? = some Try.f58 ∧ (Orc.tab Try.prog).lookup 58 = none ∧ Try.f58.body = some (codeOf Try.f58) := ⟨by kernel_rfl, by kernel_rfl, by kernel_rfl⟩
def A58_1 (x1 : Option Addr) (x27 : Bool) (M : Mem) (Q : Value → Mem → Prop) : Prop := LvP Try.prog Try.f58 [(1, .pointer x1), (27, .bool x27)] [.rg [1,1,1,0,0,1,0,0] 10, .code [1,1,1,0,0,1,0,1], .blk 0, .code [1,1,1,1]] M Q
def A58_2 (x1 : Option Addr) (x54 : Bool) (M : Mem) (Q : Value → Mem → Prop) : Prop := LvP Try.prog Try.f58 [(1, .pointer x1), (54, .bool x54)] [.code [1,1,1,0,0,1,1,1], .blk 0, .code [1,1,1,1]] M Q
def A58_3 (x1 : Option Addr) (x32 : Bool) (M : Mem) (Q : Value → Mem → Prop) : Prop := LvP Try.prog Try.f58 [(1, .pointer x1), (32, .bool x32)] [.rg [1,1,1,0,0,1,0,0] 15, .code [1,1,1,0,0,1,0,1], .blk 0, .code [1,1,1,1]] M Q
def A58_4 (x1 : Option Addr) (x66 : Bool) (M : Mem) (Q : Value → Mem → Prop) : Prop := LvP Try.prog Try.f58 [(1, .pointer x1), (66, .bool x66)] [.code [1,1,1,0,0,1,1,1,1,1], .blk 0, .code [1,1,1,1]] M Q
def A58_5 (x1 : Option Addr) (x37 : Bool) (M : Mem) (Q : Value → Mem → Prop) : Prop := LvP Try.prog Try.f58 [(1, .pointer x1), (37, .bool x37)] [.rg [1,1,1,0,0,1,0,0] 20, .code [1,1,1,0,0,1,0,1], .blk 0, .code [1,1,1,1]] M Q
def A58_6 (x1 : Option Addr) (x81 : Bool) (M : Mem) (Q : Value → Mem → Prop) : Prop := LvP Try.prog Try.f58 [(1, .pointer x1), (81, .bool x81)] [.code [1,1,1,0,0,1,1,1,1,1,1,1], .blk 0, .code [1,1,1,1]] M Q
def A58_7 (x1 : Option Addr) (x42 : Bool) (M : Mem) (Q : Value → Mem → Prop) : Prop := LvP Try.prog Try.f58 [(1, .pointer x1), (42, .bool x42)] [.rg [1,1,1,0,0,1,0,0] 25, .code [1,1,1,0,0,1,0,1], .blk 0, .code [1,1,1,1]] M Q
def A58_8 (x1 : Option Addr) (x96_0 x96_1 x96_2 x96_3 x97 : Int) (M : Mem) (Q : Value → Mem → Prop) : Prop := LvP Try.prog Try.f58 [(1, .pointer x1), (96, .agg #[.int .i64 x96_0, .int .i64 x96_1, .int .i64 x96_2, .int .i64 x96_3]), (97, .int .i64 x97)] [.code [1,1,1,1,0,1,0,0], .lp [1,1,1,1,0,1,0,0], .blk 1, .code [1,1,1,1,1]] M Q
def A58_9 (x1 : Option Addr) (x48 : Bool) (M : Mem) (Q : Value → Mem → Prop) : Prop := LvP Try.prog Try.f58 [(1, .pointer x1), (48, .bool x48)] [.rg [1,1,1,0,0,1,0,0] 31, .code [1,1,1,0,0,1,0,1], .blk 0, .code [1,1,1,1]] M Q
def A58_10 (Ax105 : Option Addr) (lx105 cx105 : Nat) (x106 x107 : Int) (M : Mem) (Q : Value → Mem → Prop) : Prop := LvP Try.prog Try.f58 [(105, .slice Ax105 lx105 cx105), (106, .int .i64 x106), (107, .int .i64 x107)] [.code [1,1,1,1,1,0,1,0,0], .lp [1,1,1,1,1,0,1,0,0], .blk 3, .code [1,1,1,1,1,1]] M Q
theorem w58_0 {x0 : Array Value} {M : Mem} {Q : Value → Mem → Prop} (H :
    onS ((M.new (.cells x0 41)).boolAt (2 * M.nb.size) (0 + 23)) fun b1' =>
    cnd b1' (
     onS ((M.new (.cells x0 41)).intAt .i64 (2 * M.nb.size) (0 + 25)) fun x2' =>
     puS (binV Try.prog .shl 3 111 (.int .i64 1) (.int .u64 (IntKind.u64.wrap (((BitVec.ofInt (IntKind.bits .u64) (IntKind.u64.wrap (x2')) &&& BitVec.ofInt (IntKind.bits .u64) 3).toNat : Int))))) fun v3' =>
     tyS (asI .i64 v3') fun x4' =>
     ldP tyZlB0 (M.new (.cells x0 41)) (2 * M.nb.size) 0 fun vs5' =>
     Cn Try.prog 77 #[.agg vs5'.toArray] (M.new (.cells x0 41)) fun v6' N6' =>
      tyS (asB v6') fun b7' =>
      cnd b7' (
       onS (N6'.intAt .i64 (2 * M.nb.size) (0 + 18)) fun x8' =>
       onS (N6'.intAt .i64 (2 * M.nb.size) (0 + 19)) fun x9' =>
       onS (N6'.intAt .i64 (2 * M.nb.size) (0 + 20)) fun x10' =>
       onS (N6'.intAt .i64 (2 * M.nb.size) (0 + 21)) fun x11' =>
       puS (binV Try.prog .eql 37 37 (.agg #[.int .i64 x8', .int .i64 x9', .int .i64 x10', .int .i64 x11']) (.agg #[.int .i64 0, .int .i64 0, .int .i64 0, .int .i64 0])) fun v12' =>
       tyS (asB v12') fun b13' =>
       cnd b13' (
        onS (N6'.intAt .i64 (2 * M.nb.size) (0 + 22)) fun x14' =>
        A58_1 (some ⟨2 * M.nb.size, 0, none⟩) (x14' == 0) N6' Q) (
        A58_1 (some ⟨2 * M.nb.size, 0, none⟩) false N6' Q)) (
       onS (N6'.intAt .i64 (2 * M.nb.size) (0 + 22)) fun x15' =>
       Cn Try.prog 55 #[.int .i64 x15', .int .i64 0, .int .i64 7] N6' fun v16' N16' =>
        tyS (asB v16') fun b17' =>
        cnd (!b17') (
         A58_2 (some ⟨2 * M.nb.size, 0, none⟩) true N16' Q) (
         onS (N16'.slAt (2 * M.nb.size) (0 + 26)) fun s18' =>
         A58_2 (some ⟨2 * M.nb.size, 0, none⟩) (((s18'.2.1 : Int)) != x4') N16' Q))) (
     ldP tyZlB0 (M.new (.cells x0 41)) (2 * M.nb.size) 0 fun vs19' =>
     Cn Try.prog 77 #[.agg vs19'.toArray] (M.new (.cells x0 41)) fun v20' N20' =>
      tyS (asB v20') fun b21' =>
      cnd b21' (
       onS (N20'.intAt .i64 (2 * M.nb.size) (0 + 18)) fun x22' =>
       onS (N20'.intAt .i64 (2 * M.nb.size) (0 + 19)) fun x23' =>
       onS (N20'.intAt .i64 (2 * M.nb.size) (0 + 20)) fun x24' =>
       onS (N20'.intAt .i64 (2 * M.nb.size) (0 + 21)) fun x25' =>
       puS (binV Try.prog .eql 37 37 (.agg #[.int .i64 x22', .int .i64 x23', .int .i64 x24', .int .i64 x25']) (.agg #[.int .i64 0, .int .i64 0, .int .i64 0, .int .i64 0])) fun v26' =>
       tyS (asB v26') fun b27' =>
       cnd b27' (
        onS (N20'.intAt .i64 (2 * M.nb.size) (0 + 22)) fun x28' =>
        A58_1 (some ⟨2 * M.nb.size, 0, none⟩) (x28' == 0) N20' Q) (
        A58_1 (some ⟨2 * M.nb.size, 0, none⟩) false N20' Q)) (
       onS (N20'.intAt .i64 (2 * M.nb.size) (0 + 22)) fun x29' =>
       Cn Try.prog 55 #[.int .i64 x29', .int .i64 0, .int .i64 7] N20' fun v30' N30' =>
        tyS (asB v30') fun b31' =>
        cnd (!b31') (
         A58_2 (some ⟨2 * M.nb.size, 0, none⟩) true N30' Q) (
         onS (N30'.slAt (2 * M.nb.size) (0 + 26)) fun s32' =>
         A58_2 (some ⟨2 * M.nb.size, 0, none⟩) (((s32'.2.1 : Int)) != 0) N30' Q)))) :
    Cn Try.prog 58 #[.agg x0] M Q :=
  Cn.mk (cuts := K58) (sp := Z58) 900 b58 rfl rfl H fun G => by kernel_rfl

theorem w58_1 {x1 : Option Addr} {x27 : Bool} {M : Mem} {Q : Value → Mem → Prop} (H :
    cnd x27 (
     adS x1 fun a33' =>
     onS (M.boolAt a33'.block (a33'.off + 23)) fun b34' =>
     A58_3 x1 (!b34') M Q) (
     A58_3 x1 false M Q)) :
    A58_1 x1 x27 M Q :=
  LvP.mk (cuts := K58) (sp := Z58) 900 H fun G => by kernel_rfl

theorem w58_2 {x1 : Option Addr} {x54 : Bool} {M : Mem} {Q : Value → Mem → Prop} (H :
    cnd x54 (
     Q (.bool false) M) (
     adS x1 fun a35' =>
     onS (M.boolAt a35'.block (a35'.off + 23)) fun b36' =>
     cnd b36' (
      adS x1 fun a37' =>
      onS (M.intAt .i64 a37'.block (a37'.off + 24)) fun x38' =>
      Cn Try.prog 55 #[.int .i64 x38', .int .i64 3, .int .i64 6] M fun v39' N39' =>
       tyS (asB v39') fun b40' =>
       cnd (!b40') (
        A58_4 x1 true N39' Q) (
        adS x1 fun a41' =>
        onS (N39'.intAt .i64 a41'.block (a41'.off + 25)) fun x42' =>
        Cn Try.prog 55 #[.int .i64 x42', .int .i64 0, .int .i64 3] N39' fun v43' N43' =>
         tyS (asB v43') fun b44' =>
         A58_4 x1 (!b44') N43' Q)) (
      A58_4 x1 false M Q))) :
    A58_2 x1 x54 M Q :=
  LvP.mk (cuts := K58) (sp := Z58) 900 H fun G => by kernel_rfl

theorem w58_3 {x1 : Option Addr} {x32 : Bool} {M : Mem} {Q : Value → Mem → Prop} (H :
    cnd x32 (
     adS x1 fun a45' =>
     onS (M.intAt .i64 a45'.block (a45'.off + 24)) fun x46' =>
     A58_5 x1 (x46' == 0) M Q) (
     A58_5 x1 false M Q)) :
    A58_3 x1 x32 M Q :=
  LvP.mk (cuts := K58) (sp := Z58) 900 H fun G => by kernel_rfl

theorem w58_4 {x1 : Option Addr} {x66 : Bool} {M : Mem} {Q : Value → Mem → Prop} (H :
    cnd x66 (
     Q (.bool false) M) (
     adS x1 fun a47' =>
     onS (M.boolAt a47'.block (a47'.off + 23)) fun b48' =>
     cnd (!b48') (
      adS x1 fun a49' =>
      onS (M.intAt .i64 a49'.block (a49'.off + 24)) fun x50' =>
      cnd (x50' != 0) (
       A58_6 x1 true M Q) (
       adS x1 fun a51' =>
       onS (M.intAt .i64 a51'.block (a51'.off + 25)) fun x52' =>
       A58_6 x1 (x52' != 0) M Q)) (
      A58_6 x1 false M Q))) :
    A58_4 x1 x66 M Q :=
  LvP.mk (cuts := K58) (sp := Z58) 900 H fun G => by kernel_rfl

theorem w58_5 {x1 : Option Addr} {x37 : Bool} {M : Mem} {Q : Value → Mem → Prop} (H :
    cnd x37 (
     adS x1 fun a53' =>
     onS (M.intAt .i64 a53'.block (a53'.off + 25)) fun x54' =>
     A58_7 x1 (x54' == 0) M Q) (
     A58_7 x1 false M Q)) :
    A58_5 x1 x37 M Q :=
  LvP.mk (cuts := K58) (sp := Z58) 900 H fun G => by kernel_rfl

theorem w58_6 {x1 : Option Addr} {x81 : Bool} {M : Mem} {Q : Value → Mem → Prop} (H :
    cnd x81 (
     Q (.bool false) M) (
     adS x1 fun a55' =>
     onS (M.intAt .i64 a55'.block (a55'.off + 18)) fun x56' =>
     onS (M.intAt .i64 a55'.block (a55'.off + 19)) fun x57' =>
     onS (M.intAt .i64 a55'.block (a55'.off + 20)) fun x58' =>
     onS (M.intAt .i64 a55'.block (a55'.off + 21)) fun x59' =>
     A58_8 x1 x56' x57' x58' x59' 0 M Q)) :
    A58_6 x1 x81 M Q :=
  LvP.mk (cuts := K58) (sp := Z58) 900 H fun G => by kernel_rfl

theorem w58_7 {x1 : Option Addr} {x42 : Bool} {M : Mem} {Q : Value → Mem → Prop} (H :
    cnd x42 (
     adS x1 fun a60' =>
     onS (M.slAt a60'.block (a60'.off + 26)) fun s61' =>
     A58_9 x1 (((s61'.2.1 : Int)) == 0) M Q) (
     A58_9 x1 false M Q)) :
    A58_7 x1 x42 M Q :=
  LvP.mk (cuts := K58) (sp := Z58) 900 H fun G => by kernel_rfl

theorem w58_8 {x1 : Option Addr} {x96_0 x96_1 x96_2 x96_3 x97 : Int} {M : Mem} {Q : Value → Mem → Prop} (H :
    cnd (decide (x97 < 4)) (
     puS (strV Try.prog 37 (.agg #[.int .i64 x96_0, .int .i64 x96_1, .int .i64 x96_2, .int .i64 x96_3]) (.int .i64 x97)) fun v62' =>
     tyS (asI .i64 v62') fun x63' =>
     Cn Try.prog 55 #[.int .i64 x63', .int .i64 0, .int .i64 63] M fun v64' N64' =>
      tyS (asB v64') fun b65' =>
      cnd (!b65') (
       Q (.bool false) N64') (
       A58_8 x1 x96_0 x96_1 x96_2 x96_3 (IntKind.i64.wrap (x97 + 1)) N64' Q)) (
     adS x1 fun a66' =>
     onS (M.slAt a66'.block (a66'.off + 26)) fun s67' =>
     A58_10 s67'.1 s67'.2.1 s67'.2.2 (s67'.2.1 : Int) 0 M Q)) :
    A58_8 x1 x96_0 x96_1 x96_2 x96_3 x97 M Q :=
  LvP.mk (cuts := K58) (sp := Z58) 900 H fun G => by kernel_rfl

theorem w58_9 {x1 : Option Addr} {x48 : Bool} {M : Mem} {Q : Value → Mem → Prop} (H :
    cnd x48 (
     adS x1 fun a68' =>
     onS (M.boolAt a68'.block (a68'.off + 27)) fun b69' =>
     onS (M.boolAt a68'.block (a68'.off + 28)) fun b70' =>
     onS (M.boolAt a68'.block (a68'.off + 29)) fun b71' =>
     puS (binV Try.prog .eql 39 39 (.agg #[.bool b69', .bool b70', .bool b71']) (.agg #[.bool false, .bool false, .bool false])) fun v72' =>
     tyS (asB v72') fun b73' =>
     Q (.bool b73') M) (
     Q (.bool false) M)) :
    A58_9 x1 x48 M Q :=
  LvP.mk (cuts := K58) (sp := Z58) 900 H fun G => by kernel_rfl

theorem w58_10 {Ax105 : Option Addr} {lx105 cx105 : Nat} {x106 x107 : Int} {M : Mem} {Q : Value → Mem → Prop} (H :
    cnd (decide (x107 < x106)) (
     ixS (idxA Ax105 lx105 4 x107) fun a74' =>
     onS (M.intAt .i64 a74'.block a74'.off) fun x75' =>
     onS (M.intAt .i64 a74'.block (a74'.off + 1)) fun x76' =>
     onS (M.intAt .i64 a74'.block (a74'.off + 2)) fun x77' =>
     onS (M.intAt .i64 a74'.block (a74'.off + 3)) fun x78' =>
     stP (some 4) #[.int .i64 x75', .int .i64 x76', .int .i64 x77', .int .i64 x78'] (M.new (.cells #[.int .i64 0, .int .i64 0, .int .i64 0, .int .i64 0] 96)) (2 * M.nb.size) 0 fun M79' =>
     onS (M79'.intAt .i64 (2 * M.nb.size) 0) fun x80' =>
     onS (M79'.intAt .i64 (2 * M.nb.size) (0 + 1)) fun x81' =>
     onS (M79'.intAt .i64 (2 * M.nb.size) (0 + 2)) fun x82' =>
     onS (M79'.intAt .i64 (2 * M.nb.size) (0 + 3)) fun x83' =>
     Cn Try.prog 79 #[.agg #[.int .i64 x80', .int .i64 x81', .int .i64 x82', .int .i64 x83']] M79' fun v84' N84' =>
      tyS (asB v84') fun b85' =>
      cnd (!b85') (
       Q (.bool false) N84') (
       A58_10 Ax105 lx105 cx105 x106 (IntKind.i64.wrap (x107 + 1)) N84' Q)) (
     Q (.bool true) M)) :
    A58_10 Ax105 lx105 cx105 x106 x107 M Q :=
  LvP.mk (cuts := K58) (sp := Z58) 900 H fun G => by kernel_rfl


/-! ### zoetrope/heads.strengthMay: function 79 -/
def K79 : List (List It × List Nat) := [([.rg [1,0] 9, .code [1,1]], [1, 11]), ([.rg [1,0] 14, .code [1,1]], [1, 16])]
def Z79 : List (List Nat × List Nat) := [([1,0], [9, 14, 19])]
theorem b79 : Try.prog.funcs[79]? = some Try.f79 ∧ (Orc.tab Try.prog).lookup 79 = none ∧ Try.f79.body = some (codeOf Try.f79) := ⟨by kernel_rfl, by kernel_rfl, by kernel_rfl⟩
def A79_1 (x1 : Option Addr) (x11 : Bool) (M : Mem) (Q : Value → Mem → Prop) : Prop := LvP Try.prog Try.f79 [(1, .pointer x1), (11, .bool x11)] [.rg [1,0] 9, .code [1,1]] M Q
def A79_2 (x1 : Option Addr) (x16 : Bool) (M : Mem) (Q : Value → Mem → Prop) : Prop := LvP Try.prog Try.f79 [(1, .pointer x1), (16, .bool x16)] [.rg [1,0] 14, .code [1,1]] M Q
theorem w79_0 {x0_0 x0_1 x0_2 x0_3 : Int} {M : Mem} {Q : Value → Mem → Prop} (H :
    onS ((M.new (.cells #[.int .i64 x0_0, .int .i64 x0_1, .int .i64 x0_2, .int .i64 x0_3] 96)).intAt .i64 (2 * M.nb.size) 0) fun x1' =>
    Cn Try.prog 55 #[.int .i64 x1', .int .i64 0, .int .i64 15] (M.new (.cells #[.int .i64 x0_0, .int .i64 x0_1, .int .i64 x0_2, .int .i64 x0_3] 96)) fun v2' N2' =>
     tyS (asB v2') fun b3' =>
     cnd b3' (
      onS (N2'.intAt .i64 (2 * M.nb.size) (0 + 2)) fun x4' =>
      Cn Try.prog 55 #[.int .i64 x4', .int .i64 0, .int .i64 15] N2' fun v5' N5' =>
       tyS (asB v5') fun b6' =>
       A79_1 (some ⟨2 * M.nb.size, 0, none⟩) b6' N5' Q) (
      A79_1 (some ⟨2 * M.nb.size, 0, none⟩) false N2' Q)) :
    Cn Try.prog 79 #[.agg #[.int .i64 x0_0, .int .i64 x0_1, .int .i64 x0_2, .int .i64 x0_3]] M Q :=
  Cn.mk (cuts := K79) (sp := Z79) 900 b79 rfl rfl H fun G => by kernel_rfl

theorem w79_1 {x1 : Option Addr} {x11 : Bool} {M : Mem} {Q : Value → Mem → Prop} (H :
    cnd x11 (
     adS x1 fun a7' =>
     onS (M.intAt .i64 a7'.block (a7'.off + 1)) fun x8' =>
     Cn Try.prog 55 #[.int .i64 x8', .int .i64 0, .int .i64 3] M fun v9' N9' =>
      tyS (asB v9') fun b10' =>
      A79_2 x1 b10' N9' Q) (
     A79_2 x1 false M Q)) :
    A79_1 x1 x11 M Q :=
  LvP.mk (cuts := K79) (sp := Z79) 900 H fun G => by kernel_rfl

theorem w79_2 {x1 : Option Addr} {x16 : Bool} {M : Mem} {Q : Value → Mem → Prop} (H :
    cnd x16 (
     adS x1 fun a11' =>
     onS (M.intAt .i64 a11'.block (a11'.off + 3)) fun x12' =>
     Cn Try.prog 55 #[.int .i64 x12', .int .i64 0, .int .i64 3] M fun v13' N13' =>
      tyS (asB v13') fun b14' =>
      Q (.bool b14') N13') (
     Q (.bool false) M)) :
    A79_2 x1 x16 M Q :=
  LvP.mk (cuts := K79) (sp := Z79) 900 H fun G => by kernel_rfl


end Go.Zt

