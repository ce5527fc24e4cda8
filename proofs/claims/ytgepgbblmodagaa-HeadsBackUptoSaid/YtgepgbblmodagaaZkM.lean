/- Layer 20: sequence headers: CheckSeq c14 c15, SeqBytes c10 c11, ReadSeq c12 c13. -/
import Derived.Test.YtgepgbblmodagaaZkE
import Derived.Test.YtgepgbblmodagaaZkDa
import Derived.Test.YtgepgbblmodagaaProg
import Derived.Test.YtgepgbblmodagaaZkA
import Derived.Test.YtgepgbblmodagaaZqT
set_option linter.unusedSimpArgs false
set_option linter.unusedVariables false
namespace Go.Zt
open Go Go.Sim Go.Proofs Go.RowKit

theorem nb {b : Bool} (h : (!b) = true) : b = false := by cases b <;> simp_all
theorem nb' {b : Bool} (h : (!b) = false) : b = true := by cases b <;> simp_all
theorem fb {M N : Mem} (hf : M.floor ≤ M.nb.size) (K : Keep M N) : N.floor ≤ N.nb.size := by rw [K.floor]; exact Nat.le_trans hf K.size
theorem set2s {M : Mem} {j : Nat} {a b : Value} {e : TypeId} (h : M.nb[j]? = some (.cells #[a, b] e)) (hf : M.floor ≤ j) (x y : Int) :
    ∃ M1, M.put (2 * j) 0 (.int .i64 x) = some M1 ∧ ∃ M2, M1.put (2 * j) 1 (.int .i64 y) = some M2 ∧ Chg (· = j) M M2 ∧ M2.nb[j]? = some (.cells #[.int .i64 x, .int .i64 y] e) := by
  have p1 := put_of (i := 0) (v := .int .i64 x) h hf (by simp) rfl
  have C1 := upd_chg (M := M) (S := (· = j)) (b := .cells ((#[a, b] : Array Value).setIfInBounds 0 (.int .i64 x)) e) (j := j) rfl
  have u1 := upd_at (M := M) (b := .cells ((#[a, b] : Array Value).setIfInBounds 0 (.int .i64 x)) e) (lt_of_at h)
  generalize M.upd j _ = M1 at p1 C1 u1
  have p2 := put_of (i := 1) (v := .int .i64 y) u1 (by rw [C1.floor]; exact hf) (by simp) rfl
  have C2 := C1.trans (upd_chg (M := M1) (S := (· = j)) (b := .cells (((#[a, b] : Array Value).setIfInBounds 0 (.int .i64 x)).setIfInBounds 1 (.int .i64 y)) e) (j := j) rfl)
  have u2 := upd_at (M := M1) (b := .cells (((#[a, b] : Array Value).setIfInBounds 0 (.int .i64 x)).setIfInBounds 1 (.int .i64 y)) e) (lt_of_at u1)
  generalize M1.upd j _ = M2 at p2 C2 u2
  exact ⟨M1, p1, M2, p2, C2, u2⟩
def mayS (w h : Int) : Bool := decide (16 ≤ w ∧ w ≤ 256 ∧ 16 ≤ h ∧ h ≤ 256 ∧ w % 2 = 0 ∧ h % 2 = 0)
def chkS (w h : Int) : Nat := if mayS w h then 0 else 2
theorem m2 (x : Int) : (x.tmod 2 == 0) = decide (x % 2 = 0) := by
  rw [Bool.eq_iff_iff]
  simp only [beq_iff_eq, decide_eq_true_eq]
  rw [← Int.dvd_iff_tmod_eq_zero, Int.dvd_iff_emod_eq_zero]
theorem c55 {x a b : Int} {M : Mem} : Cn Try.prog 55 #[.int .i64 x, .int .i64 a, .int .i64 b] M fun v N => v = .bool (decide (a ≤ x ∧ x ≤ b)) ∧ N = M :=
  w55_0 ⟨fun h => ⟨by congr 1; rw [decide_eq_decide]; omega, rfl⟩, fun h => ⟨by rw [decide_eq_false]; omega, rfl⟩⟩
theorem c45 {x a b : Int} {M : Mem} : Cn Try.prog 45 #[.int .i64 x, .int .i64 a, .int .i64 b] M fun v N => v = .bool (decide (a ≤ x ∧ x ≤ b)) ∧ N = M :=
  w45_0 ⟨fun h => ⟨by congr 1; rw [decide_eq_decide]; omega, rfl⟩, fun h => ⟨by rw [decide_eq_false]; omega, rfl⟩⟩
theorem c44 {x : Int} {M : Mem} : Cn Try.prog 44 #[.int .i64 x] M fun v N => v = .bool (decide (16 ≤ x ∧ x ≤ 256 ∧ x % 2 = 0)) ∧ N = M := by
  refine w44_0 (Cn.eq c55 ⟨_, rfl, fun h => ⟨?_, rfl⟩, fun h => ⟨?_, rfl⟩⟩)
  · have := of_decide_eq_true h
    rw [m2]; congr 1; rw [decide_eq_decide]; omega
  · have := of_decide_eq_false h
    congr 1; rw [eq_comm]; exact decide_eq_false (by omega)
def IntK (M : Mem) (x : Int) : Value → Mem → Prop := fun v N => v = .int .i64 x ∧ Keep M N
theorem c14 {w h : Int} {M : Mem} : Cn Try.prog 14 #[.agg #[.int .i64 w, .int .i64 h]] M (IntK M (chkS w h : Nat)) := by
  have a := Mem.new_at M (.cells #[.int .i64 w, .int .i64 h] 23)
  have K : Keep M (M.new (.cells #[.int .i64 w, .int .i64 h] 23)) := .new _ _
  refine w14_0 ?_
  generalize M.new (.cells #[.int .i64 w, .int .i64 h] 23) = N at a K ⊢
  have key : ∀ b, b = !mayS w h → A14_1 b N (IntK M (chkS w h : Nat)) := by
    rintro b rfl
    refine w14_1 ⟨fun hb => ⟨?_, K⟩, fun hb => ⟨?_, K⟩⟩
    · unfold chkS; rw [if_neg (by rw [nb hb]; decide)]; rfl
    · unfold chkS; rw [if_pos (nb' hb)]; rfl
  refine ⟨_, int_of (i := 0) a rfl, Cn.eq c44 ⟨_, rfl, fun hb => key _ ?_, fun hb => ⟨_, int_of (i := 0 + 1) a rfl, Cn.eq c44 ⟨_, rfl, key _ ?_⟩⟩⟩⟩
  · have := of_decide_eq_false (nb hb)
    unfold mayS; rw [decide_eq_false (by omega)]; rfl
  · have := of_decide_eq_true (nb' hb)
    congr 1
    unfold mayS; rw [decide_eq_decide]; omega
theorem c15 {w h : Int} {M : Mem} : Cn Try.prog 15 #[.agg #[.int .i64 w, .int .i64 h]] M (IntK M (chkS w h : Nat)) := by
  have a := Mem.new_at M (.cells #[.int .i64 w, .int .i64 h] 23)
  have K : Keep M (M.new (.cells #[.int .i64 w, .int .i64 h] 23)) := .new _ _
  refine w15_0 ?_
  generalize M.new (.cells #[.int .i64 w, .int .i64 h] 23) = N at a K ⊢
  have key : ∀ b, b = !mayS w h → A15_3 b N (IntK M (chkS w h : Nat)) := by
    rintro b rfl
    refine w15_3 ⟨fun hb => ⟨?_, K⟩, fun hb => ⟨?_, K⟩⟩
    · unfold chkS; rw [if_neg (by rw [nb hb]; decide)]; rfl
    · unfold chkS; rw [if_pos (nb' hb)]; rfl
  have t : ∀ x : Int, (x.tmod 2 != 0) = !decide (x % 2 = 0) := fun x => by rw [← m2]; rfl
  have key2 : ∀ b, b = !decide (16 ≤ w ∧ w ≤ 256 ∧ 16 ≤ h ∧ h ≤ 256 ∧ w % 2 = 0) → A15_2 (some ⟨2 * M.nb.size, 0, none⟩) b N (IntK M (chkS w h : Nat)) := by
    rintro b rfl
    refine w15_2 ⟨fun hb => key _ ?_, fun hb => ⟨_, rfl, _, int_of (i := 0 + 1) a rfl, key _ ?_⟩⟩
    · have := of_decide_eq_false (nb hb)
      unfold mayS; rw [decide_eq_false (by omega)]; rfl
    · have := of_decide_eq_true (nb' hb)
      rw [t]; congr 1; unfold mayS; rw [decide_eq_decide]; omega
  have key1 : ∀ b, b = !decide (16 ≤ w ∧ w ≤ 256 ∧ 16 ≤ h ∧ h ≤ 256) → A15_1 (some ⟨2 * M.nb.size, 0, none⟩) b N (IntK M (chkS w h : Nat)) := by
    rintro b rfl
    refine w15_1 ⟨fun hb => key2 _ ?_, fun hb => ⟨_, rfl, _, int_of (i := 0) a rfl, key2 _ ?_⟩⟩
    · have := of_decide_eq_false (nb hb)
      rw [decide_eq_false (by omega)]; rfl
    · have := of_decide_eq_true (nb' hb)
      rw [t]; congr 1; rw [decide_eq_decide]; omega
  refine ⟨_, int_of (i := 0) a rfl, Cn.eq c45 ⟨_, rfl, fun hb => key1 _ ?_, fun hb => ⟨_, int_of (i := 0 + 1) a rfl, Cn.eq c45 ⟨_, rfl, key1 _ ?_⟩⟩⟩⟩
  · have := of_decide_eq_false (nb hb)
    rw [decide_eq_false (by omega)]; rfl
  · have := of_decide_eq_true (nb' hb)
    congr 1; rw [decide_eq_decide]; omega
/-! ### The bytes of a sequence header -/
def seqN (w h : Int) : Nat := ((w - 16) / 2 * 512 + (h - 16) / 2 * 4).toNat
def sqb (w h : Int) : List Nat := if mayS w h then [seqN w h / 256, seqN w h % 256] else []
def SqR (M : Mem) (w h : Int) : Value → Mem → Prop := fun v N => Keep M N ∧ ∃ A c, v = .tuple #[.slice A (sqb w h).length c, .int .i64 (chkS w h : Nat)] ∧ Row N A (U8 (sqb w h))
theorem row0 {M : Mem} {A : Option Addr} : Row M A [] := fun i h => absurd h (by simp)
theorem frV (M : Mem) (e : TypeId) (L : List Value) {cs : Array Value} (h : L.toArray = cs) : ∃ N, M.new (.cells cs e) = N ∧ Keep M N ∧ Row N (some ⟨2 * M.nb.size, 0, none⟩) L := by
  subst h; exact ⟨_, rfl, .new _ _, Row.new M e L⟩
theorem chk0 {w h : Int} (e : ((chkS w h : Nat) : Int) = 0) : mayS w h = true := by
  unfold chkS at e
  cases hm : mayS w h
  · rw [hm] at e; cases e
  · rfl
theorem chk1 {w h : Int} (e : ((chkS w h : Nat) : Int) ≠ 0) : mayS w h = false := by
  cases hm : mayS w h
  · rfl
  · exact absurd (by unfold chkS; rw [hm]; rfl) e
theorem mayS_of {w h : Int} (e : mayS w h = true) : 16 ≤ w ∧ w ≤ 256 ∧ 16 ≤ h ∧ h ≤ 256 ∧ w % 2 = 0 ∧ h % 2 = 0 := of_decide_eq_true e
theorem c11 {w h : Int} {M : Mem} : Cn Try.prog 11 #[.agg #[.int .i64 w, .int .i64 h]] M (SqR M w h) := by
  have a := Mem.new_at M (.cells #[.int .i64 w, .int .i64 h] 23)
  have K : Keep M (M.new (.cells #[.int .i64 w, .int .i64 h] 23)) := .new _ _
  refine w11_0 ?_
  generalize M.new (.cells #[.int .i64 w, .int .i64 h] 23) = N at a K ⊢
  refine ⟨_, int_of (i := 0) a rfl, _, int_of (i := 0 + 1) a rfl, Cn.mono c15 ?_⟩
  rintro _ N3 ⟨rfl, K3⟩
  have a3 := at_keep a K3
  refine ⟨_, rfl, fun he => ?_, fun he => ?_⟩
  · have hm := chk1 he
    have e : sqb w h = [] := by unfold sqb; rw [hm]; rfl
    refine ⟨K.trans K3, none, 0, ?_, ?_⟩
    · rw [e]; rfl
    · rw [e]; exact row0
  · have hm := chk0 he
    obtain ⟨h1, h2, h3, h4, h5, h6⟩ := mayS_of hm
    have e : sqb w h = [seqN w h / 256, seqN w h % 256] := by unfold sqb; rw [hm]; rfl
    have t1 : (w - 16).tdiv 2 = (w - 16) / 2 := Int.tdiv_eq_ediv_of_nonneg (by omega)
    have t2 : (h - 16).tdiv 2 = (h - 16) / 2 := Int.tdiv_eq_ediv_of_nonneg (by omega)
    have g : (w - 16) / 2 * 512 + (h - 16) / 2 * 4 = ((seqN w h : Nat) : Int) := by unfold seqN; omega
    have gb : seqN w h < 65536 := by unfold seqN; omega
    refine ⟨_, int_of (i := 0) a3 rfl, _, int_of (i := 0 + 1) a3 rfl, ?_⟩
    simp only [i64w (x := w - 16) (by omega), i64w (x := h - 16) (by omega), t1, t2, i64w (x := (w - 16) / 2) (by omega), i64w (x := (h - 16) / 2) (by omega), i64w (x := (w - 16) / 2 * 512) (by omega), i64w (x := (h - 16) / 2 * 4) (by omega), g, i64w (x := ((seqN w h : Nat) : Int)) (by omega)]
    generalize seqN w h = q at *
    have t3 : ((q : Nat) : Int).tdiv 256 = ((q / 256 : Nat) : Int) := by rw [Int.tdiv_eq_ediv_of_nonneg (by omega)]; omega
    have t4 : ((q : Nat) : Int).tmod 256 = ((q % 256 : Nat) : Int) := by rw [Int.tmod_eq_emod_of_nonneg (by omega)]; omega
    simp only [t3, t4, i64w (x := ((q / 256 : Nat) : Int)) (by omega), u8w (x := ((q / 256 : Nat) : Int)) (by omega), u8w (x := ((q % 256 : Nat) : Int)) (by omega)]
    obtain ⟨N5, e5, K5, R5⟩ := frV N3 5 (U8 [q / 256, q % 256]) rfl
    refine ⟨K.trans (K3.trans ?_), some ⟨2 * N3.nb.size, 0, none⟩, 2, ?_, ?_⟩
    · rw [← e5] at K5; exact K5
    · rw [e]; unfold chkS; rw [hm]; rfl
    · rw [e, ← e5] at *; exact R5
theorem packS (a b : Nat) (ha : a < 121) (hb : b < 121) : pack (bitsN a 7 ++ bitsN b 7) = [(a * 512 + b * 4) / 256, (a * 512 + b * 4) % 256] := by
  simp [pack, gbyte, bitL, numb, bitsN, List.range_succ]
  omega
theorem c10 {w h : Int} {M : Mem} (hf : M.floor ≤ M.nb.size) : Cn Try.prog 10 #[.agg #[.int .i64 w, .int .i64 h]] M (SqR M w h) := by
  have a := Mem.new_at M (.cells #[.int .i64 w, .int .i64 h] 23)
  have K : Keep M (M.new (.cells #[.int .i64 w, .int .i64 h] 23)) := .new _ _
  refine w10_0 ?_
  generalize M.new (.cells #[.int .i64 w, .int .i64 h] 23) = N at a K ⊢
  refine ⟨_, int_of (i := 0) a rfl, _, int_of (i := 0 + 1) a rfl, Cn.mono c14 ?_⟩
  rintro _ N3 ⟨rfl, K3⟩
  have a3 := at_keep a K3
  have K0 := K.trans K3
  refine ⟨_, rfl, fun he => ?_, fun he => ?_⟩
  · have hm := chk1 he
    have e : sqb w h = [] := by unfold sqb; rw [hm]; rfl
    refine ⟨K0, none, 0, ?_, ?_⟩
    · rw [e]; rfl
    · rw [e]; exact row0
  · have hm := chk0 he
    obtain ⟨h1, h2, h3, h4, h5, h6⟩ := mayS_of hm
    have t1 : (w - 16).tdiv 2 = (((w - 16) / 2).toNat : Int) := by rw [Int.tdiv_eq_ediv_of_nonneg (by omega)]; omega
    have t2 : (h - 16).tdiv 2 = (((h - 16) / 2).toNat : Int) := by rw [Int.tdiv_eq_ediv_of_nonneg (by omega)]; omega
    have e : sqb w h = [(((w - 16) / 2).toNat * 512 + ((h - 16) / 2).toNat * 4) / 256, (((w - 16) / 2).toNat * 512 + ((h - 16) / 2).toNat * 4) % 256] := by
      have : seqN w h = ((w - 16) / 2).toNat * 512 + ((h - 16) / 2).toNat * 4 := by unfold seqN; omega
      unfold sqb; rw [hm, this]; rfl
    have ec : chkS w h = 0 := by unfold chkS; rw [hm]; rfl
    have x1 : ((w - 16) / 2).toNat < 121 := by omega
    have x2 : ((h - 16) / 2).toNat < 121 := by omega
    have y1 : IntKind.u32.wrap ((IntKind.u32.wrap (IntKind.i64.wrap (w - 16))).tdiv 2) = (((w - 16) / 2).toNat : Int) := by
      rw [i64w (x := w - 16) (by omega), u32w (x := w - 16) (by omega), t1, u32w (by omega)]
    have y2 : IntKind.u32.wrap ((IntKind.u32.wrap (IntKind.i64.wrap (h - 16))).tdiv 2) = (((h - 16) / 2).toNat : Int) := by
      rw [i64w (x := h - 16) (by omega), u32w (x := h - 16) (by omega), t2, u32w (by omega)]
    generalize ((w - 16) / 2).toNat = p at *
    generalize ((h - 16) / 2).toNat = q at *
    have f3 := fb hf K0
    refine Cn.mono c19 ?_
    rintro _ N5 ⟨rfl, K5, s5, W5⟩
    have a5 := at_keep a3 K5
    have W : Wr (fun i => N5.nb.size ≤ i) N5 N3.nb.size [] := ⟨by show ¬ (N5.nb.size ≤ _); omega, W5.bin, W5.len, by obtain ⟨A, c, g1, g2, g3⟩ := W5.ex; exact ⟨A, c, g1, g2.mono fun i _ hi => hi.elim, g3⟩⟩
    have F : Fl (fun i => N5.nb.size ≤ i) N5 N3.nb.size := ⟨fun i hi => by rw [K5.floor]; rcases hi with hi | hi <;> omega, fun i hi => hi⟩
    have w1 : wFixed [] p 7 = (0, [] ++ bitsN p 7) := by unfold wFixed; rw [if_neg (by simp; omega)]; rfl
    have w2 : wFixed ([] ++ bitsN p 7) q 7 = (0, [] ++ bitsN p 7 ++ bitsN q 7) := by unfold wFixed; rw [if_neg (by simp; omega)]; rfl
    refine ⟨_, rfl, _, int_of (i := 0) a5 rfl, _, int_of (i := 0 + 1) a5 rfl, w10_1 ⟨fun _ => ⟨.int .i64 w, by kernel_rfl, w, rfl, Cn.mono (c22 F W y1 (by omega) 7 (by simp)) ?_⟩, fun h => absurd (by decide) h⟩⟩
    rw [w1]
    rintro _ N6 ⟨rfl, K6, W6⟩
    refine ⟨_, rfl, fun h => absurd rfl h, fun _ => w10_1 ⟨fun _ => ⟨.int .i64 h, by kernel_rfl, h, rfl, Cn.mono (c22 (F.chg K6) W6 y2 (by omega) 7 (by simp [bitsN])) ?_⟩, fun h => absurd (by decide) h⟩⟩
    rw [w2]
    rintro _ N7 ⟨rfl, K7, W7⟩
    have f7 : N7.floor ≤ N7.nb.size := by
      have := K6.size; have := K7.size; have := K5.size
      rw [K7.floor, K6.floor, K5.floor]; omega
    refine ⟨_, rfl, fun h => absurd rfl h, fun _ => w10_1 ⟨fun h => absurd h (by decide), fun _ => Cn.mono (c28 W7 f7) ?_⟩⟩
    rintro _ N8 ⟨A, c, rfl, K8, O8, _⟩
    have hp : pack ([] ++ bitsN p 7 ++ bitsN q 7) = sqb w h := by rw [e, List.nil_append]; exact packS p q x1 x2
    dsimp only at O8
    rw [hp] at O8
    have big : ∀ i, (N5.nb.size ≤ i ∨ i = N3.nb.size) → M.nb.size ≤ i := fun i hi => by have := K0.size; have := K5.size; omega
    refine ⟨_, rfl, (Keep.step (Keep.step (K0.trans K5) K6 big) K7 big).trans K8, A, c, ?_, O8.row⟩
    rw [ec, ← hp]; rfl
end Go.Zt


/- Layer 20: reading a sequence header: c13 (and c12). -/
set_option linter.unusedSimpArgs false
set_option linter.unusedVariables false
namespace Go.Zt
open Go Go.Sim Go.Proofs Go.RowKit

def rdS (b : List Nat) : Nat × Nat × Nat :=
  if b.length < 2 then (0, 0, 3)
  else if 16 + 2 * ((b.getD 0 0 * 256 + b.getD 1 0) / 512) > 256 ∨ 16 + 2 * ((b.getD 0 0 * 256 + b.getD 1 0) / 4 % 128) > 256 then (0, 0, 5)
  else if (b.getD 0 0 * 256 + b.getD 1 0) % 4 ≠ 0 ∨ b.length > 2 then (0, 0, 4)
  else (16 + 2 * ((b.getD 0 0 * 256 + b.getD 1 0) / 512), 16 + 2 * ((b.getD 0 0 * 256 + b.getD 1 0) / 4 % 128), 0)
def RqR (M : Mem) (r : Nat × Nat × Nat) : Value → Mem → Prop := fun v N => v = .tuple #[.agg #[.int .i64 (r.1 : Nat), .int .i64 (r.2.1 : Nat)], .int .i64 (r.2.2 : Nat)] ∧ Keep M N
/-- The end of every road: the answer's cells are set and read. -/
theorem fin2 {M0 M : Mem} {j : Nat} {a b : Value} {e : TypeId} (K : Keep M0 M) (h : M.nb[j]? = some (.cells #[a, b] e)) (hj : M0.nb.size ≤ j) (hf : M.floor ≤ j) (x y : Int) :
    ∃ M1, M.put (2 * j) 0 (.int .i64 x) = some M1 ∧ ∃ M2, M1.put (2 * j) 1 (.int .i64 y) = some M2 ∧ M2.intAt .i64 (2 * j) 0 = some x ∧ M2.intAt .i64 (2 * j) 1 = some y ∧ Keep M0 M2 := by
  obtain ⟨M1, p1, M2, p2, C, u⟩ := set2s h hf x y
  exact ⟨M1, p1, M2, p2, int_of (i := 0) u rfl, int_of (i := 1) u rfl, Keep.step K C fun i hi => by omega⟩
theorem e13_2 {M0 M : Mem} {j i : Nat} {W H : Nat} (K : Keep M0 M) (hj : M.nb[j]? = some (.cells #[.int .i64 0, .int .i64 0] 23)) (hi : M.nb[i]? = some (.cells #[.int .i64 (W : Int), .int .i64 (H : Int)] 23)) (h0 : M0.nb.size ≤ j) (hf : M.floor ≤ j) (b : Bool) :
    A13_2 (some ⟨2 * j, 0, none⟩) (some ⟨2 * i, 0, none⟩) b M (RqR M0 (if b then (0, 0, 4) else (W, H, 0))) := by
  refine w13_2 ⟨fun hb => ?_, fun hb => ?_⟩
  · obtain ⟨M1, p1, M2, p2, i1, i2, K2⟩ := fin2 K hj h0 hf 0 0
    subst hb
    exact ⟨_, rfl, M1, p1, M2, p2, _, rfl, 0, i1, 0, i2, rfl, K2⟩
  · obtain ⟨M1, p1, M2, p2, i1, i2, K2⟩ := fin2 K hj h0 hf (W : Int) (H : Int)
    subst hb
    exact ⟨_, rfl, _, int_of (i := 0) hi rfl, _, int_of (i := 0 + 1) hi rfl, _, rfl, M1, p1, M2, p2, _, rfl, _, i1, _, i2, rfl, K2⟩
theorem e13_1 {M0 M : Mem} {j i : Nat} {W H : Nat} {A : Option Addr} {l c n : Nat} (K : Keep M0 M) (hj : M.nb[j]? = some (.cells #[.int .i64 0, .int .i64 0] 23)) (hi : M.nb[i]? = some (.cells #[.int .i64 (W : Int), .int .i64 (H : Int)] 23)) (h0 : M0.nb.size ≤ j) (hf : M.floor ≤ j) {x : Int} (hx : x = (n : Int)) (b : Bool) :
    A13_1 A l c (some ⟨2 * j, 0, none⟩) x (some ⟨2 * i, 0, none⟩) b M (RqR M0 (if b then (0, 0, 5) else if n % 4 ≠ 0 ∨ l > 2 then (0, 0, 4) else (W, H, 0))) := by
  subst hx
  have tm : ((n : Nat) : Int).tmod 4 = ((n % 4 : Nat) : Int) := by rw [Int.tmod_eq_emod_of_nonneg (by omega)]; omega
  refine w13_1 ⟨fun hb => ?_, fun hb => ⟨fun h4 => ?_, fun h4 => ?_⟩⟩
  · obtain ⟨M1, p1, M2, p2, i1, i2, K2⟩ := fin2 K hj h0 hf 0 0
    subst hb
    exact ⟨_, rfl, M1, p1, M2, p2, _, rfl, 0, i1, 0, i2, rfl, K2⟩
  · subst hb
    rw [tm] at h4
    have e : (if false = true then ((0, 0, 5) : Nat × Nat × Nat) else if n % 4 ≠ 0 ∨ l > 2 then (0, 0, 4) else (W, H, 0)) = (0, 0, 4) := by rw [if_neg (by decide), if_pos (.inl (by omega))]
    rw [e]; exact e13_2 K hj hi h0 hf true
  · subst hb
    rw [tm] at h4
    have e : (if false = true then ((0, 0, 5) : Nat × Nat × Nat) else if n % 4 ≠ 0 ∨ l > 2 then (0, 0, 4) else (W, H, 0)) = (if decide ((l : Int) > 2) = true then (0, 0, 4) else (W, H, 0)) := by
      rw [if_neg (by decide)]
      by_cases hl : l > 2
      · rw [if_pos (.inr hl), if_pos (by rw [decide_eq_true_eq]; omega)]
      · rw [if_neg (by omega), if_neg (by rw [decide_eq_true_eq]; omega)]
    rw [e]; exact e13_2 K hj hi h0 hf _
theorem put1 {M : Mem} {j : Nat} {cs : Array Value} {e : TypeId} (i : Nat) (v : Value) (h : M.nb[j]? = some (.cells cs e)) (hf : M.floor ≤ j) (hi : i < cs.size) (hv : oneCell v = true) :
    ∃ M1, M.put (2 * j) i v = some M1 ∧ Chg (· = j) M M1 ∧ M1.nb.size = M.nb.size ∧ M1.nb[j]? = some (.cells (cs.setIfInBounds i v) e) :=
  ⟨_, put_of h hf hi hv, upd_chg rfl, upd_size _, upd_at (lt_of_at h)⟩
def seqW (b : List Nat) : Nat := b.getD 0 0 * 256 + b.getD 1 0
theorem seqb {b : List Nat} (hB : Byt b) (i : Nat) : b.getD i 0 < 256 := by
  by_cases h : i < b.length
  · have := hB b[i] (List.getElem_mem _); simpa [List.getD_eq_getElem?_getD, h] using this
  · simp [List.getD_eq_getElem?_getD, h]
theorem c13 {M : Mem} {A : Option Addr} {l c : Nat} {b : List Nat} (hf : M.floor ≤ M.nb.size) (hR : Row M A (U8 b)) (hl : l = b.length) (hB : Byt b) : Cn Try.prog 13 #[.slice A l c] M (RqR M (rdS b)) := by
  have a := Mem.new_at M (.cells #[.int .i64 0, .int .i64 0] 23)
  have K : Keep M (M.new (.cells #[.int .i64 0, .int .i64 0] 23)) := .new _ _
  have sz := Mem.new_size M (.cells #[.int .i64 0, .int .i64 0] 23)
  refine w13_0 ?_
  generalize M.new (.cells #[.int .i64 0, .int .i64 0] 23) = N at a K sz ⊢
  have fN : N.floor ≤ M.nb.size := by rw [K.floor]; exact hf
  refine ⟨fun h => ?_, fun h => ?_⟩
  · obtain ⟨M1, p1, M2, p2, i1, i2, K2⟩ := fin2 K a (Nat.le_refl _) fN 0 0
    have e : rdS b = (0, 0, 3) := by unfold rdS; rw [if_pos (by omega)]
    rw [e]
    exact ⟨M1, p1, M2, p2, 0, i1, 0, i2, rfl, K2⟩
  · have l2 : ¬ b.length < 2 := by omega
    have R := hR.keep K
    have b0 := seqb hB 0
    have b1 := seqb hB 1
    obtain ⟨a0, e0, r0⟩ := R.int1 (n := l) (i := 0) (z := 0) (k := .u8) (x := (b.getD 0 0 : Nat)) rfl (by omega) (by simp [U8, List.getD_eq_getElem?_getD, show 0 < b.length by omega])
    obtain ⟨a1, e1, r1⟩ := R.int1 (n := l) (i := 1) (z := 1) (k := .u8) (x := (b.getD 1 0 : Nat)) rfl (by omega) (by simp [U8, List.getD_eq_getElem?_getD, show 1 < b.length by omega])
    refine ⟨_, e0, _, r0, _, e1, _, r1, ?_⟩
    have e : rdS b = if decide (16 + 2 * (seqW b / 512) > 256 ∨ 16 + 2 * (seqW b / 4 % 128) > 256) = true then (0, 0, 5) else if seqW b % 4 ≠ 0 ∨ l > 2 then (0, 0, 4) else (16 + 2 * (seqW b / 512), 16 + 2 * (seqW b / 4 % 128), 0) := by
      unfold rdS; rw [if_neg l2, hl]; simp only [decide_eq_true_eq]; rfl
    rw [e]
    have hn : seqW b = b.getD 0 0 * 256 + b.getD 1 0 := rfl
    have nb : seqW b < 65536 := by rw [hn]; omega
    have g0 : IntKind.i64.wrap ((IntKind.i64.wrap ((IntKind.i64.wrap ((b.getD 0 0 : Nat) : Int)) * 256)) + (IntKind.i64.wrap ((b.getD 1 0 : Nat) : Int))) = ((seqW b : Nat) : Int) := by
      rw [i64w (x := ((b.getD 0 0 : Nat) : Int)) (by omega), i64w (x := ((b.getD 1 0 : Nat) : Int)) (by omega), i64w (x := ((b.getD 0 0 : Nat) : Int) * 256) (by omega), i64w (by omega), hn]; omega
    rw [g0]
    generalize seqW b = n at *
    have t1 : ((n : Nat) : Int).tdiv 512 = ((n / 512 : Nat) : Int) := tdivN n 512
    have t2 : ((n : Nat) : Int).tdiv 4 = ((n / 4 : Nat) : Int) := tdivN n 4
    have t3 : ((n / 4 : Nat) : Int).tmod 128 = ((n / 4 % 128 : Nat) : Int) := tmodN (n / 4) 128
    have g1 : IntKind.i64.wrap (16 + (IntKind.i64.wrap (2 * (IntKind.i64.wrap (((n : Nat) : Int).tdiv 512))))) = ((16 + 2 * (n / 512) : Nat) : Int) := by
      rw [t1, i64w (x := ((n / 512 : Nat) : Int)) (by omega), i64w (x := 2 * ((n / 512 : Nat) : Int)) (by omega), i64w (by omega)]; omega
    have g2 : IntKind.i64.wrap (16 + (IntKind.i64.wrap (2 * ((IntKind.i64.wrap (((n : Nat) : Int).tdiv 4)).tmod 128)))) = ((16 + 2 * (n / 4 % 128) : Nat) : Int) := by
      rw [t2, i64w (x := ((n / 4 : Nat) : Int)) (by omega), t3, i64w (x := 2 * ((n / 4 % 128 : Nat) : Int)) (by omega), i64w (by omega)]; omega
    rw [g1, g2]
    have a2 := Mem.new_at N (.cells #[.int .i64 0, .int .i64 0] 23)
    have K2 : Keep N (N.new (.cells #[.int .i64 0, .int .i64 0] 23)) := .new _ _
    generalize N.new (.cells #[.int .i64 0, .int .i64 0] 23) = N2 at a2 K2 ⊢
    obtain ⟨M1, p1, M2, p2, C, u⟩ := set2s a2 (by rw [K2.floor]; omega) ((16 + 2 * (n / 512) : Nat) : Int) ((16 + 2 * (n / 4 % 128) : Nat) : Int)
    have KK : Keep M M2 := Keep.step (K.trans K2) C fun i hi => by omega
    have aj := at_chg (at_keep a K2) C (by omega)
    have fj : M2.floor ≤ M.nb.size := by rw [KK.floor]; exact hf
    refine ⟨M1, p1, M2, p2, _, int_of (i := 0) u rfl, fun h5 => ?_, fun h5 => ⟨_, int_of (i := 0 + 1) u rfl, ?_⟩⟩
    · have := e13_1 (A := A) (l := l) (c := c) (n := n) KK aj u (Nat.le_refl _) fj rfl true
      rw [decide_eq_true (by omega)]; exact this
    · have := e13_1 (A := A) (l := l) (c := c) (n := n) KK aj u (Nat.le_refl _) fj rfl (decide (((16 + 2 * (n / 4 % 128) : Nat) : Int) > 256))
      have ed : decide (16 + 2 * (n / 512) > 256 ∨ 16 + 2 * (n / 4 % 128) > 256) = decide (((16 + 2 * (n / 4 % 128) : Nat) : Int) > 256) := by rw [decide_eq_decide]; omega
      rw [ed]; exact this
/-! ### The program's -/
theorem bits7 {b : List Nat} (hB : Byt b) : numb (bitOf b) 0 7 = seqW b / 512 ∧ numb (bitOf b) 7 7 = seqW b / 4 % 128 ∧ numb (bitOf b) 14 2 = seqW b % 4 := by
  have b0 := seqb hB 0
  have b1 := seqb hB 1
  unfold seqW
  simp only [numb, bitOf, Nat.reduceAdd, Nat.reduceDiv, Nat.reduceMod, Nat.reduceSub, Nat.reducePow]
  refine ⟨?_, ?_, ?_⟩ <;> omega
theorem e12_3 {M0 M : Mem} {j i : Nat} {W H : Nat} (K : Keep M0 M) (hj : M.nb[j]? = some (.cells #[.int .i64 0, .int .i64 0] 23)) (hi : M.nb[i]? = some (.cells #[.int .i64 (W : Int), .int .i64 (H : Int)] 23)) (h0 : M0.nb.size ≤ j) (hf : M.floor ≤ j) (b : Bool) :
    A12_3 (some ⟨2 * j, 0, none⟩) (some ⟨2 * i, 0, none⟩) b M (RqR M0 (if b then (0, 0, 4) else (W, H, 0))) := by
  refine w12_3 ⟨fun hb => ?_, fun hb => ?_⟩
  · obtain ⟨M1, p1, M2, p2, i1, i2, K2⟩ := fin2 K hj h0 hf 0 0
    subst hb
    exact ⟨_, rfl, M1, p1, M2, p2, _, rfl, 0, i1, 0, i2, rfl, K2⟩
  · obtain ⟨M1, p1, M2, p2, i1, i2, K2⟩ := fin2 K hj h0 hf (W : Int) (H : Int)
    subst hb
    exact ⟨_, rfl, _, int_of (i := 0) hi rfl, _, int_of (i := 0 + 1) hi rfl, _, rfl, M1, p1, M2, p2, _, rfl, _, i1, _, i2, rfl, K2⟩
theorem e12_2 {S : Nat → Prop} {M0 M : Mem} {j i r : Nat} {W H : Nat} {b : List Nat} (K : Keep M0 M) (hj : M.nb[j]? = some (.cells #[.int .i64 0, .int .i64 0] 23)) (hi : M.nb[i]? = some (.cells #[.int .i64 (W : Int), .int .i64 (H : Int)] 23)) (h0 : M0.nb.size ≤ j) (hf : M.floor ≤ j)
    (hr : Rdr S M r b 14) (hr0 : M0.nb.size ≤ r) (hrf : M.floor ≤ r) (hjr : j ≠ r) (hir : i ≠ r) (hB : Byt b) (h2 : 2 ≤ b.length) (g : Bool) :
    A12_2 (some ⟨2 * j, 0, none⟩) (some ⟨2 * r, 0, none⟩) (some ⟨2 * i, 0, none⟩) g M (RqR M0 (if g then (0, 0, 5) else if seqW b % 4 ≠ 0 ∨ b.length > 2 then (0, 0, 4) else (W, H, 0))) := by
  refine w12_2 ⟨fun hb => ?_, fun hb => ?_⟩
  · obtain ⟨M1, p1, M2, p2, i1, i2, K2⟩ := fin2 K hj h0 hf 0 0
    subst hb
    exact ⟨_, rfl, M1, p1, M2, p2, _, rfl, 0, i1, 0, i2, rfl, K2⟩
  · subst hb
    rw [if_neg (by decide)]
    have hl := hr.len
    refine Cn.mono (c40 hr hrf) ?_
    rintro _ N ⟨rfl, C, sz, hr2⟩
    have e : rAlign b 14 = if seqW b % 4 ≠ 0 then (4, 14) else (0, 16) := by
      unfold rAlign
      simp only [Nat.reduceMod, Nat.reduceSub, (bits7 hB).2.2, Nat.reduceAdd]
    rw [e] at hr2 ⊢
    have KK := Keep.step K C fun i hi => by omega
    have hj2 := at_chg hj C hjr
    have hi2 := at_chg hi C hir
    have f2 : N.floor ≤ j := by rw [C.floor]; exact hf
    refine ⟨_, rfl, fun h => ?_, fun h => ?_⟩
    · by_cases h4 : seqW b % 4 ≠ 0
      · rw [if_pos (.inl h4)]; exact e12_3 KK hj2 hi2 h0 f2 true
      · rw [if_neg h4] at h; exact absurd rfl h
    · by_cases h4 : seqW b % 4 ≠ 0
      · rw [if_pos h4] at h; cases h
      · rw [if_neg h4] at hr2
        refine Cn.eq (c37 hr2) ⟨_, rfl, ?_⟩
        have e2 : (if seqW b % 4 ≠ 0 ∨ b.length > 2 then ((0, 0, 4) : Nat × Nat × Nat) else (W, H, 0)) = if decide (((8 * b.length - 16 : Nat) : Int) > 0) = true then (0, 0, 4) else (W, H, 0) := by
          by_cases hl2 : b.length > 2
          · rw [if_pos (.inr hl2), if_pos (by rw [decide_eq_true_eq]; omega)]
          · rw [if_neg (by omega), if_neg (by rw [decide_eq_true_eq]; omega)]
        rw [e2]
        exact e12_3 KK hj2 hi2 h0 f2 _
theorem c12 {M : Mem} {A : Option Addr} {l c : Nat} {b : List Nat} (hf : M.floor ≤ M.nb.size) (hR : Row M A (U8 b)) (hl : l = b.length) (hB : Byt b) (hb : b.length ≤ 4294967296) : Cn Try.prog 12 #[.slice A l c] M (RqR M (rdS b)) := by
  have a := Mem.new_at M (.cells #[.int .i64 0, .int .i64 0] 23)
  have K : Keep M (M.new (.cells #[.int .i64 0, .int .i64 0] 23)) := .new _ _
  have sz := Mem.new_size M (.cells #[.int .i64 0, .int .i64 0] 23)
  refine w12_0 ?_
  generalize M.new (.cells #[.int .i64 0, .int .i64 0] 23) = N at a K sz ⊢
  have fN : N.floor ≤ M.nb.size := by rw [K.floor]; exact hf
  refine Cn.mono (c31 (by omega) (hR.keep K) hl.symm (by omega) hB) ?_
  rintro _ N1 ⟨r, rfl, K1, hr0, hr1, hr⟩
  have a1 := at_keep a K1
  have ns := Mem.new_at N1 (.cells #[.int .i64 0, .int .i64 0] 78)
  have K2 : Keep N1 (N1.new (.cells #[.int .i64 0, .int .i64 0] 78)) := .new _ _
  have sz1 := K1.size
  refine ⟨_, rfl, ?_⟩
  generalize N1.new (.cells #[.int .i64 0, .int .i64 0] 78) = N2 at ns K2 ⊢
  have a2 := at_keep a1 K2
  have hr2 := hr.keep K2
  have KK := (K.trans K1).trans K2
  have f2 : N2.floor ≤ M.nb.size := by rw [KK.floor]; exact hf
  refine Cn.eq (c37 hr2) ⟨_, rfl, fun h => ?_, fun h => ?_⟩
  · obtain ⟨M1, p1, M2, p2, i1, i2, K2⟩ := fin2 KK a2 (Nat.le_refl _) f2 0 0
    have e : rdS b = (0, 0, 3) := by unfold rdS; rw [if_pos (by omega)]
    rw [e]
    exact ⟨M1, p1, M2, p2, 0, i1, 0, i2, rfl, K2⟩
  · have l2 : 2 ≤ b.length := by omega
    obtain ⟨q1, q2, q3⟩ := bits7 hB
    have b0 := seqb hB 0
    have b1 := seqb hB 1
    have nW : seqW b < 65536 := by unfold seqW; omega
    have f1 : rFixed b 0 7 = (seqW b / 512, 0, 7) := by
      unfold rFixed; rw [if_neg (by omega), if_neg (by omega), ← q1]; rfl
    have f7 : rFixed b 7 7 = (seqW b / 4 % 128, 0, 14) := by
      unfold rFixed; rw [if_neg (by omega), if_neg (by omega), ← q2]; rfl
    have wr : ∀ x : Nat, x < 128 → IntKind.i64.wrap (16 + (IntKind.i64.wrap (2 * (IntKind.i64.wrap ((x : Nat) : Int))))) = ((16 + 2 * x : Nat) : Int) := fun x hx => by
      rw [i64w (x := ((x : Nat) : Int)) (by omega), i64w (x := 2 * ((x : Nat) : Int)) (by omega), i64w (by omega)]; omega
    refine w12_1 ⟨fun _ => Cn.mono (c33 hr2 (by omega) 7) ?_, fun h => absurd (by decide) h⟩
    rw [f1]
    rintro _ N3 ⟨rfl, C3, s3, hr3⟩
    have ns3 := at_chg ns C3 (by omega)
    have a3 := at_chg a2 C3 (by omega)
    have K3 := Keep.step KK C3 fun i hi => by omega
    obtain ⟨N4, p4, C4, s4, ns4⟩ := put1 0 (.int .i64 ((16 + 2 * (seqW b / 512) : Nat) : Int)) ns3 (by rw [K3.floor]; omega) (by decide) rfl
    have a4 := at_chg a3 C4 (by omega)
    have K4 := Keep.step K3 C4 fun i hi => by omega
    have hr4 := hr3.chg C4 (by omega) fun i hi => by omega
    refine ⟨_, rfl, _, rfl, _, rfl, fun h => absurd rfl h, fun _ => ⟨⟨2 * N1.nb.size, 0, none⟩, by kernel_rfl, N4, by rw [wr _ (by omega)]; exact p4, ?_⟩⟩
    refine w12_1 ⟨fun _ => Cn.mono (c33 hr4 (by rw [K4.floor]; omega) 7) ?_, fun h => absurd (by decide) h⟩
    rw [f7]
    rintro _ N5 ⟨rfl, C5, s5, hr5⟩
    have ns5 := at_chg ns4 C5 (by omega)
    have a5 := at_chg a4 C5 (by omega)
    have K5 := Keep.step K4 C5 fun i hi => by omega
    obtain ⟨N6, p6, C6, s6, ns6⟩ := put1 1 (.int .i64 ((16 + 2 * (seqW b / 4 % 128) : Nat) : Int)) ns5 (by rw [K5.floor]; omega) (by simp) rfl
    have a6 := at_chg a5 C6 (by omega)
    have K6 := Keep.step K5 C6 fun i hi => by omega
    have hr6 := hr5.chg C6 (by omega) fun i hi => by omega
    refine ⟨_, rfl, _, rfl, _, rfl, fun h => absurd rfl h, fun _ => ⟨⟨2 * N1.nb.size, 1, none⟩, by kernel_rfl, N6, by rw [wr _ (by omega)]; exact p6, ?_⟩⟩
    refine w12_1 ⟨fun h => absurd h (by decide), fun _ => ⟨⟨2 * N1.nb.size, 0, none⟩, by kernel_rfl, _, int_of (i := 0) ns6 rfl, ⟨2 * N1.nb.size, 1, none⟩, by kernel_rfl, _, int_of (i := 1) ns6 rfl, ?_⟩⟩
    have a7 := Mem.new_at N6 (.cells #[.int .i64 0, .int .i64 0] 23)
    have K7 : Keep N6 (N6.new (.cells #[.int .i64 0, .int .i64 0] 23)) := .new _ _
    generalize N6.new (.cells #[.int .i64 0, .int .i64 0] 23) = N7 at a7 K7 ⊢
    have s26 := K2.size
    have s45 := C4.size
    have s67 := C6.size
    have s35 := C3.size
    have s55 := C5.size
    have fl : N7.floor ≤ M.nb.size := by rw [K7.floor, K6.floor]; exact hf
    obtain ⟨M1, p1, M2, p2, C, u⟩ := set2s a7 (by omega) ((16 + 2 * (seqW b / 512) : Nat) : Int) ((16 + 2 * (seqW b / 4 % 128) : Nat) : Int)
    have KK7 : Keep M M2 := Keep.step (K6.trans K7) C fun i hi => by omega
    have aj := at_chg (at_keep a6 K7) C (by omega)
    have hr7 := (hr6.keep K7).chg C (by omega) fun i hi => by omega
    have fj : M2.floor ≤ M.nb.size := by rw [KK7.floor]; exact hf
    have e : rdS b = if decide (16 + 2 * (seqW b / 512) > 256 ∨ 16 + 2 * (seqW b / 4 % 128) > 256) = true then (0, 0, 5) else if seqW b % 4 ≠ 0 ∨ b.length > 2 then (0, 0, 4) else (16 + 2 * (seqW b / 512), 16 + 2 * (seqW b / 4 % 128), 0) := by
      unfold rdS; rw [if_neg (by omega)]; simp only [decide_eq_true_eq]; rfl
    rw [e]
    refine ⟨M1, p1, M2, p2, _, int_of (i := 0) u rfl, fun h5 => ?_, fun h5 => ⟨_, int_of (i := 0 + 1) u rfl, ?_⟩⟩
    · have := e12_2 KK7 aj u (Nat.le_refl _) fj hr7 (by omega) (by omega) (by omega) (by omega) hB l2 true
      rw [decide_eq_true (by omega)]; exact this
    · have := e12_2 KK7 aj u (Nat.le_refl _) fj hr7 (by omega) (by omega) (by omega) (by omega) hB l2 (decide (((16 + 2 * (seqW b / 4 % 128) : Nat) : Int) > 256))
      have ed : decide (16 + 2 * (seqW b / 512) > 256 ∨ 16 + 2 * (seqW b / 4 % 128) > 256) = decide (((16 + 2 * (seqW b / 4 % 128) : Nat) : Int) > 256) := by rw [decide_eq_decide]; omega
      rw [ed]; exact this
end Go.Zt


/- The functions' walks: for each function and each loop a rule of what it comes to. Printed by zw.py. -/
set_option linter.unusedVariables false
set_option maxRecDepth 100000
namespace Go.Zt
open Go Go.Sim Go.Proofs

variable {g0 g1 g2 g3 g4 g5 g6 g7 g8 g9 gA gB gC gD gE gF gG gH gI gJ gK gL gM gN gO gP gQ gR gS gT gU gV gW gX gY gZ hA hB hC hD hE hF hG hH hI hJ hK hL hM hN hO hP hQ hR hS hT hU hV hW hX hY hZ h0 h1 h2 h3 h4 h5 h6 : Value}
/-! ### zoetrope/zoetropelaw20.HeadsSeqs: function 3 -/
noncomputable abbrev P3 (p : List Nat) : Code := subC (codeOf Try.f3) p
noncomputable abbrev O3 (p : List Nat) : Array Oper := opsOf (subC (codeOf Try.f3) p)
theorem b3 : Try.prog.funcs[3]? = some Try.f3 ∧ (Orc.tab Try.prog).lookup 3 = none := ⟨by kernel_rfl, by kernel_rfl⟩
theorem d3 : Try.f3.body = some (P3 []) := by kernel_rfl
theorem t3 {x0_0 x0_1 : Int} {Ax1 : Option Addr} {lx1 cx1 : Nat} : #[.agg #[.int .i64 x0_0, .int .i64 x0_1],.slice Ax1 lx1 cx1] ++ Array.replicate (Try.f3.ntmps - (#[.agg #[.int .i64 x0_0, .int .i64 x0_1],.slice Ax1 lx1 cx1] : Array Value).size) undef = #[.agg #[.int .i64 x0_0, .int .i64 x0_1],.slice Ax1 lx1 cx1,undef,undef,undef,undef,undef,undef,undef,undef,undef,undef,undef,undef,undef,undef,undef,undef,undef,undef,undef,undef,undef,undef,undef,undef,undef,undef,undef,undef,undef,undef,undef,undef,undef,undef,undef,undef,undef,undef,undef,undef,undef,undef,undef,undef,undef,undef,undef,undef,undef,undef,undef,undef,undef,undef,undef,undef,undef,undef,undef,undef,undef,undef,undef,undef,undef,undef,undef] := by kernel_rfl
theorem k3_0 : P3 [] = .seq (P3 [0]) (P3 [1]) := by kernel_rfl
theorem k3_1 : P3 [0] = .region 0 (O3 [0]) false := by kernel_rfl
theorem r3_0 {x0_0 x0_1 : Int} {M : Mem} {call : CallM} {K : Array Value → Mem → R} :
    opsK Try.prog (fun _ => call) (O3 [0]) (O3 [0]).toList 0 #[.agg #[.int .i64 x0_0, .int .i64 x0_1],g1,g2,g3,g4,g5,g6,g7,g8,g9,gA,gB,gC,gD,gE,gF,gG,gH,gI,gJ,gK,gL,gM,gN,gO,gP,gQ,gR,gS,gT,gU,gV,gW,gX,gY,gZ,hA,hB,hC,hD,hE,hF,hG,hH,hI,hJ,hK,hL,hM,hN,hO,hP,hQ,hR,hS,hT,hU,hV,hW,hX,hY,hZ,h0,h1,h2,h3,h4,h5,h6] M K = K #[.agg #[.int .i64 x0_0, .int .i64 x0_1],g1,.pointer (some ⟨2 * M.nb.size, 0, none⟩),g3,.bool false,g5,g6,g7,g8,g9,gA,gB,gC,gD,gE,gF,gG,gH,gI,gJ,gK,gL,gM,gN,gO,gP,gQ,gR,gS,gT,gU,gV,gW,gX,gY,gZ,hA,hB,hC,hD,hE,hF,hG,hH,hI,hJ,hK,hL,hM,hN,hO,hP,hQ,hR,hS,hT,hU,hV,hW,hX,hY,hZ,h0,h1,h2,h3,h4,h5,h6] (M.new (.cells #[.int .i64 x0_0, .int .i64 x0_1] 23)) := by kernel_rfl
theorem k3_2 : P3 [1] = .seq (P3 [1,0]) (P3 [1,1]) := by kernel_rfl
theorem k3_3 : P3 [1,0] = .region 1 (O3 [1,0]) false := by kernel_rfl
theorem r3_1 {Ax1 : Option Addr} {lx1 cx1 : Nat} {M : Mem} {call : CallM} {K : Array Value → Mem → R} :
    opsK Try.prog (fun _ => call) (O3 [1,0]) (O3 [1,0]).toList 0 #[g0,.slice Ax1 lx1 cx1,g2,g3,g4,g5,g6,g7,g8,g9,gA,gB,gC,gD,gE,gF,gG,gH,gI,gJ,gK,gL,gM,gN,gO,gP,gQ,gR,gS,gT,gU,gV,gW,gX,gY,gZ,hA,hB,hC,hD,hE,hF,hG,hH,hI,hJ,hK,hL,hM,hN,hO,hP,hQ,hR,hS,hT,hU,hV,hW,hX,hY,hZ,h0,h1,h2,h3,h4,h5,h6] M K = (call 9 #[.slice Ax1 lx1 cx1] M).bind fun r_1 => (asS r_1.1).bind fun s_2 => K #[g0,.slice Ax1 lx1 cx1,g2,g3,g4,.slice s_2.1 (s_2.2.1) (s_2.2.2),g6,g7,g8,g9,gA,gB,gC,gD,.slice Ax1 lx1 cx1,.slice s_2.1 (s_2.2.1) (s_2.2.2),gG,gH,gI,gJ,gK,gL,gM,gN,gO,gP,gQ,gR,gS,gT,gU,gV,gW,gX,gY,gZ,hA,hB,hC,hD,hE,hF,hG,hH,hI,hJ,hK,hL,hM,hN,hO,hP,hQ,hR,hS,hT,hU,hV,hW,hX,hY,hZ,h0,h1,h2,h3,h4,h5,h6] r_1.2 := by kernel_rfl
theorem k3_4 : P3 [1,1] = .seq (P3 [1,1,0]) (P3 [1,1,1]) := by kernel_rfl
theorem k3_5 : P3 [1,1,0] = .region 2 (O3 [1,1,0]) false := by kernel_rfl
theorem r3_2 {x2 : Option Addr} {M : Mem} {call : CallM} {K : Array Value → Mem → R} :
    opsK Try.prog (fun _ => call) (O3 [1,1,0]) (O3 [1,1,0]).toList 0 #[g0,g1,.pointer x2,g3,g4,g5,g6,g7,g8,g9,gA,gB,gC,gD,gE,gF,gG,gH,gI,gJ,gK,gL,gM,gN,gO,gP,gQ,gR,gS,gT,gU,gV,gW,gX,gY,gZ,hA,hB,hC,hD,hE,hF,hG,hH,hI,hJ,hK,hL,hM,hN,hO,hP,hQ,hR,hS,hT,hU,hV,hW,hX,hY,hZ,h0,h1,h2,h3,h4,h5,h6] M K = (x2).bind fun a_1 => (M.intAt .i64 a_1.block a_1.off).bind fun x_2 => (M.intAt .i64 a_1.block (a_1.off + 1)).bind fun x_3 => (call 10 #[.agg #[.int .i64 x_2, .int .i64 x_3]] M).bind fun r_4 => (asU 2 r_4.1).bind fun cs_5 => (asS (cs_5.getD 0 undef)).bind fun s_6 => (asI .i64 (cs_5.getD 1 undef)).bind fun x_7 => K #[g0,g1,.pointer x2,g3,g4,g5,.slice s_6.1 (s_6.2.1) (s_6.2.2),.int .i64 x_7,g8,g9,gA,gB,gC,gD,gE,gF,.tuple #[.slice s_6.1 (s_6.2.1) (s_6.2.2), .int .i64 x_7],.agg #[.int .i64 x_2, .int .i64 x_3],.tuple #[.slice s_6.1 (s_6.2.1) (s_6.2.2), .int .i64 x_7],.slice s_6.1 (s_6.2.1) (s_6.2.2),.int .i64 x_7,gL,gM,gN,gO,gP,gQ,gR,gS,gT,gU,gV,gW,gX,gY,gZ,hA,hB,hC,hD,hE,hF,hG,hH,hI,hJ,hK,hL,hM,hN,hO,hP,hQ,hR,hS,hT,hU,hV,hW,hX,hY,hZ,h0,h1,h2,h3,h4,h5,h6] r_4.2 := by kernel_rfl
theorem k3_6 : P3 [1,1,1] = .seq (P3 [1,1,1,0]) (P3 [1,1,1,1]) := by kernel_rfl
theorem k3_7 : P3 [1,1,1,0] = .region 3 (O3 [1,1,1,0]) false := by kernel_rfl
theorem r3_3 {x2 : Option Addr} {M : Mem} {call : CallM} {K : Array Value → Mem → R} :
    opsK Try.prog (fun _ => call) (O3 [1,1,1,0]) (O3 [1,1,1,0]).toList 0 #[g0,g1,.pointer x2,g3,g4,g5,g6,g7,g8,g9,gA,gB,gC,gD,gE,gF,gG,gH,gI,gJ,gK,gL,gM,gN,gO,gP,gQ,gR,gS,gT,gU,gV,gW,gX,gY,gZ,hA,hB,hC,hD,hE,hF,hG,hH,hI,hJ,hK,hL,hM,hN,hO,hP,hQ,hR,hS,hT,hU,hV,hW,hX,hY,hZ,h0,h1,h2,h3,h4,h5,h6] M K = (x2).bind fun a_1 => (M.intAt .i64 a_1.block a_1.off).bind fun x_2 => (M.intAt .i64 a_1.block (a_1.off + 1)).bind fun x_3 => (call 11 #[.agg #[.int .i64 x_2, .int .i64 x_3]] M).bind fun r_4 => (asU 2 r_4.1).bind fun cs_5 => (asS (cs_5.getD 0 undef)).bind fun s_6 => (asI .i64 (cs_5.getD 1 undef)).bind fun x_7 => K #[g0,g1,.pointer x2,g3,g4,g5,g6,g7,.slice s_6.1 (s_6.2.1) (s_6.2.2),.int .i64 x_7,gA,gB,gC,gD,gE,gF,gG,gH,gI,gJ,gK,.tuple #[.slice s_6.1 (s_6.2.1) (s_6.2.2), .int .i64 x_7],.agg #[.int .i64 x_2, .int .i64 x_3],.tuple #[.slice s_6.1 (s_6.2.1) (s_6.2.2), .int .i64 x_7],.slice s_6.1 (s_6.2.1) (s_6.2.2),.int .i64 x_7,gQ,gR,gS,gT,gU,gV,gW,gX,gY,gZ,hA,hB,hC,hD,hE,hF,hG,hH,hI,hJ,hK,hL,hM,hN,hO,hP,hQ,hR,hS,hT,hU,hV,hW,hX,hY,hZ,h0,h1,h2,h3,h4,h5,h6] r_4.2 := by kernel_rfl
theorem k3_8 : P3 [1,1,1,1] = .seq (P3 [1,1,1,1,0]) (P3 [1,1,1,1,1]) := by kernel_rfl
theorem k3_9 : P3 [1,1,1,1,0] = .region 4 (O3 [1,1,1,1,0]) false := by kernel_rfl
theorem r3_4 {Ax5 : Option Addr} {lx5 cx5 : Nat} {M : Mem} {call : CallM} {K : Array Value → Mem → R} :
    opsK Try.prog (fun _ => call) (O3 [1,1,1,1,0]) (O3 [1,1,1,1,0]).toList 0 #[g0,g1,g2,g3,g4,.slice Ax5 lx5 cx5,g6,g7,g8,g9,gA,gB,gC,gD,gE,gF,gG,gH,gI,gJ,gK,gL,gM,gN,gO,gP,gQ,gR,gS,gT,gU,gV,gW,gX,gY,gZ,hA,hB,hC,hD,hE,hF,hG,hH,hI,hJ,hK,hL,hM,hN,hO,hP,hQ,hR,hS,hT,hU,hV,hW,hX,hY,hZ,h0,h1,h2,h3,h4,h5,h6] M K = (call 12 #[.slice Ax5 lx5 cx5] M).bind fun r_1 => (asU 2 r_1.1).bind fun cs_2 => (asA 2 (cs_2.getD 0 undef)).bind fun cs_3 => (asI .i64 (cs_3.getD 0 undef)).bind fun x_4 => (asI .i64 (cs_3.getD 1 undef)).bind fun x_5 => (asI .i64 (cs_2.getD 1 undef)).bind fun x_6 => ((r_1.2.new (.cells #[.int .i64 0, .int .i64 0] 23)).put (2 * r_1.2.nb.size) 0 (.int .i64 x_4)).bind fun M_7 => (M_7.put (2 * r_1.2.nb.size) 1 (.int .i64 x_5)).bind fun M_8 => K #[g0,g1,g2,g3,g4,.slice Ax5 lx5 cx5,g6,g7,g8,g9,.pointer (some ⟨2 * r_1.2.nb.size, 0, none⟩),.int .i64 x_6,gC,gD,gE,gF,gG,gH,gI,gJ,gK,gL,gM,gN,gO,gP,.tuple #[.agg #[.int .i64 x_4, .int .i64 x_5], .int .i64 x_6],.slice Ax5 lx5 cx5,.tuple #[.agg #[.int .i64 x_4, .int .i64 x_5], .int .i64 x_6],.agg #[.int .i64 x_4, .int .i64 x_5],.int .i64 x_6,gV,gW,gX,gY,gZ,hA,hB,hC,hD,hE,hF,hG,hH,hI,hJ,hK,hL,hM,hN,hO,hP,hQ,hR,hS,hT,hU,hV,hW,hX,hY,hZ,h0,h1,h2,h3,h4,h5,h6] M_8 := by kernel_rfl
theorem k3_10 : P3 [1,1,1,1,1] = .seq (P3 [1,1,1,1,1,0]) (P3 [1,1,1,1,1,1]) := by kernel_rfl
theorem k3_11 : P3 [1,1,1,1,1,0] = .region 5 (O3 [1,1,1,1,1,0]) false := by kernel_rfl
theorem r3_5 {Ax1 : Option Addr} {lx1 cx1 : Nat} {M : Mem} {call : CallM} {K : Array Value → Mem → R} :
    opsK Try.prog (fun _ => call) (O3 [1,1,1,1,1,0]) (O3 [1,1,1,1,1,0]).toList 0 #[g0,.slice Ax1 lx1 cx1,g2,g3,g4,g5,g6,g7,g8,g9,gA,gB,gC,gD,gE,gF,gG,gH,gI,gJ,gK,gL,gM,gN,gO,gP,gQ,gR,gS,gT,gU,gV,gW,gX,gY,gZ,hA,hB,hC,hD,hE,hF,hG,hH,hI,hJ,hK,hL,hM,hN,hO,hP,hQ,hR,hS,hT,hU,hV,hW,hX,hY,hZ,h0,h1,h2,h3,h4,h5,h6] M K = (call 13 #[.slice Ax1 lx1 cx1] M).bind fun r_1 => (asU 2 r_1.1).bind fun cs_2 => (asA 2 (cs_2.getD 0 undef)).bind fun cs_3 => (asI .i64 (cs_3.getD 0 undef)).bind fun x_4 => (asI .i64 (cs_3.getD 1 undef)).bind fun x_5 => (asI .i64 (cs_2.getD 1 undef)).bind fun x_6 => ((r_1.2.new (.cells #[.int .i64 0, .int .i64 0] 23)).put (2 * r_1.2.nb.size) 0 (.int .i64 x_4)).bind fun M_7 => (M_7.put (2 * r_1.2.nb.size) 1 (.int .i64 x_5)).bind fun M_8 => K #[g0,.slice Ax1 lx1 cx1,g2,g3,g4,g5,g6,g7,g8,g9,gA,gB,.pointer (some ⟨2 * r_1.2.nb.size, 0, none⟩),.int .i64 x_6,gE,gF,gG,gH,gI,gJ,gK,gL,gM,gN,gO,gP,gQ,gR,gS,gT,gU,.tuple #[.agg #[.int .i64 x_4, .int .i64 x_5], .int .i64 x_6],.slice Ax1 lx1 cx1,.tuple #[.agg #[.int .i64 x_4, .int .i64 x_5], .int .i64 x_6],.agg #[.int .i64 x_4, .int .i64 x_5],.int .i64 x_6,hA,hB,hC,hD,hE,hF,hG,hH,hI,hJ,hK,hL,hM,hN,hO,hP,hQ,hR,hS,hT,hU,hV,hW,hX,hY,hZ,h0,h1,h2,h3,h4,h5,h6] M_8 := by kernel_rfl
theorem k3_12 : P3 [1,1,1,1,1,1] = .seq (P3 [1,1,1,1,1,1,0]) (P3 [1,1,1,1,1,1,1]) := by kernel_rfl
theorem k3_14 : P3 [1,1,1,1,1,1,0] = .region 6 (O3 [1,1,1,1,1,1,0]) true ∧ (!true || drawOk (O3 [1,1,1,1,1,1,0])) = true := ⟨by kernel_rfl, by kernel_rfl⟩
theorem r3_6p0 {x2 : Option Addr} {x7 x9 : Int} {M : Mem} {call : CallM} {K : Array Value → Mem → R} :
    segK Try.prog true call (O3 [1,1,1,1,1,1,0]) 0 11 #[g0,g1,.pointer x2,g3,g4,g5,g6,.int .i64 x7,g8,.int .i64 x9,gA,gB,gC,gD,gE,gF,gG,gH,gI,gJ,gK,gL,gM,gN,gO,gP,gQ,gR,gS,gT,gU,gV,gW,gX,gY,gZ,hA,hB,hC,hD,hE,hF,hG,hH,hI,hJ,hK,hL,hM,hN,hO,hP,hQ,hR,hS,hT,hU,hV,hW,hX,hY,hZ,h0,h1,h2,h3,h4,h5,h6] M K = withK (fun w36 w37 w38 w39 w40 w41 w42 w43 w44 w45 w46 M => K #[g0,g1,.pointer x2,g3,g4,g5,g6,.int .i64 x7,g8,.int .i64 x9,gA,gB,gC,gD,gE,gF,gG,gH,gI,gJ,gK,gL,gM,gN,gO,gP,gQ,gR,gS,gT,gU,gV,gW,gX,gY,gZ,w36,w37,w38,w39,w40,w41,w42,w43,w44,w45,w46,hL,hM,hN,hO,hP,hQ,hR,hS,hT,hU,hV,hW,hX,hY,hZ,h0,h1,h2,h3,h4,h5,h6] M) fun k => (x2).bind fun a_1 => (M.intAt .i64 a_1.block a_1.off).bind fun x_2 => (M.intAt .i64 a_1.block (a_1.off + 1)).bind fun x_3 => (x2).bind fun a_4 => (M.intAt .i64 a_4.block a_4.off).bind fun x_5 => (M.intAt .i64 a_4.block (a_4.off + 1)).bind fun x_6 => (floored call 14 #[.agg #[.int .i64 x_2, .int .i64 x_3]] M).bind fun r_7 => (asI .i64 r_7.1).bind fun x_8 => (call 15 #[.agg #[.int .i64 x_5, .int .i64 x_6]] r_7.2).bind fun r_9 => (asI .i64 r_9.1).bind fun x_10 => cond (x_8 == x_10) (k (.agg #[.int .i64 x_2, .int .i64 x_3]) (.int .i64 x_8) (.agg #[.int .i64 x_5, .int .i64 x_6]) (.int .i64 x_10) (.bool (x_8 == x_10)) (.bool true) (.int .i64 x7) (.int .i64 x9) (.bool (x7 == x9)) (.bool (x7 == x9)) (.bool (x7 == x9)) r_9.2) (k (.agg #[.int .i64 x_2, .int .i64 x_3]) (.int .i64 x_8) (.agg #[.int .i64 x_5, .int .i64 x_6]) (.int .i64 x_10) (.bool (x_8 == x_10)) (.bool false) undef undef undef (.bool false) (.bool false) r_9.2) := by kernel_rfl
theorem r3_6p11 {Ax6 : Option Addr} {lx6 cx6 : Nat} {Ax8 : Option Addr} {lx8 cx8 : Nat} {x46 : Bool} {M : Mem} {call : CallM} {K : Array Value → Mem → R} :
    segK Try.prog true call (O3 [1,1,1,1,1,1,0]) 11 5 #[g0,g1,g2,g3,g4,g5,.slice Ax6 lx6 cx6,g7,.slice Ax8 lx8 cx8,g9,gA,gB,gC,gD,gE,gF,gG,gH,gI,gJ,gK,gL,gM,gN,gO,gP,gQ,gR,gS,gT,gU,gV,gW,gX,gY,gZ,hA,hB,hC,hD,hE,hF,hG,hH,hI,hJ,.bool x46,hL,hM,hN,hO,hP,hQ,hR,hS,hT,hU,hV,hW,hX,hY,hZ,h0,h1,h2,h3,h4,h5,h6] M K = withK (fun w46 w47 w48 w49 w50 w51 M => K #[g0,g1,g2,g3,g4,g5,.slice Ax6 lx6 cx6,g7,.slice Ax8 lx8 cx8,g9,gA,gB,gC,gD,gE,gF,gG,gH,gI,gJ,gK,gL,gM,gN,gO,gP,gQ,gR,gS,gT,gU,gV,gW,gX,gY,gZ,hA,hB,hC,hD,hE,hF,hG,hH,hI,hJ,w46,w47,w48,w49,w50,w51,hQ,hR,hS,hT,hU,hV,hW,hX,hY,hZ,h0,h1,h2,h3,h4,h5,h6] M) fun k => cond x46 ((call 16 #[.slice Ax6 lx6 cx6, .slice Ax8 lx8 cx8] M).bind fun r_1 => (asB r_1.1).bind fun b_2 => k (.bool true) (.slice Ax6 lx6 cx6) (.slice Ax8 lx8 cx8) (.bool b_2) (.bool b_2) (.bool b_2) r_1.2) (k (.bool false) undef undef undef (.bool false) (.bool false) M) := by kernel_rfl
theorem r3_6p16 {x10 x12 : Option Addr} {x51 : Bool} {M : Mem} {call : CallM} {K : Array Value → Mem → R} :
    segK Try.prog true call (O3 [1,1,1,1,1,1,0]) 16 5 #[g0,g1,g2,g3,g4,g5,g6,g7,g8,g9,.pointer x10,gB,.pointer x12,gD,gE,gF,gG,gH,gI,gJ,gK,gL,gM,gN,gO,gP,gQ,gR,gS,gT,gU,gV,gW,gX,gY,gZ,hA,hB,hC,hD,hE,hF,hG,hH,hI,hJ,hK,hL,hM,hN,hO,.bool x51,hQ,hR,hS,hT,hU,hV,hW,hX,hY,hZ,h0,h1,h2,h3,h4,h5,h6] M K = withK (fun w51 w52 w53 w54 w55 w56 M => K #[g0,g1,g2,g3,g4,g5,g6,g7,g8,g9,.pointer x10,gB,.pointer x12,gD,gE,gF,gG,gH,gI,gJ,gK,gL,gM,gN,gO,gP,gQ,gR,gS,gT,gU,gV,gW,gX,gY,gZ,hA,hB,hC,hD,hE,hF,hG,hH,hI,hJ,hK,hL,hM,hN,hO,w51,w52,w53,w54,w55,w56,hV,hW,hX,hY,hZ,h0,h1,h2,h3,h4,h5,h6] M) fun k => cond x51 ((x10).bind fun a_1 => (M.intAt .i64 a_1.block a_1.off).bind fun x_2 => (M.intAt .i64 a_1.block (a_1.off + 1)).bind fun x_3 => (x12).bind fun a_4 => (M.intAt .i64 a_4.block a_4.off).bind fun x_5 => (M.intAt .i64 a_4.block (a_4.off + 1)).bind fun x_6 => (binV Try.prog .eql 23 23 (.agg #[.int .i64 x_2, .int .i64 x_3]) (.agg #[.int .i64 x_5, .int .i64 x_6])).bind fun v_7 => (asB v_7).bind fun b_8 => k (.bool true) (.agg #[.int .i64 x_2, .int .i64 x_3]) (.agg #[.int .i64 x_5, .int .i64 x_6]) (.bool b_8) (.bool b_8) (.bool b_8) M) (k (.bool false) undef undef undef (.bool false) (.bool false) M) := by kernel_rfl
theorem r3_6p21 {x11 x13 : Int} {x56 : Bool} {M : Mem} {call : CallM} {K : Array Value → Mem → R} :
    segK Try.prog true call (O3 [1,1,1,1,1,1,0]) 21 5 #[g0,g1,g2,g3,g4,g5,g6,g7,g8,g9,gA,.int .i64 x11,gC,.int .i64 x13,gE,gF,gG,gH,gI,gJ,gK,gL,gM,gN,gO,gP,gQ,gR,gS,gT,gU,gV,gW,gX,gY,gZ,hA,hB,hC,hD,hE,hF,hG,hH,hI,hJ,hK,hL,hM,hN,hO,hP,hQ,hR,hS,hT,.bool x56,hV,hW,hX,hY,hZ,h0,h1,h2,h3,h4,h5,h6] M K = withK (fun w56 w57 w58 w59 w60 w61 M => K #[g0,g1,g2,g3,g4,g5,g6,g7,g8,g9,gA,.int .i64 x11,gC,.int .i64 x13,gE,gF,gG,gH,gI,gJ,gK,gL,gM,gN,gO,gP,gQ,gR,gS,gT,gU,gV,gW,gX,gY,gZ,hA,hB,hC,hD,hE,hF,hG,hH,hI,hJ,hK,hL,hM,hN,hO,hP,hQ,hR,hS,hT,w56,w57,w58,w59,w60,w61,h0,h1,h2,h3,h4,h5,h6] M) fun k => cond x56 (k (.bool true) (.int .i64 x11) (.int .i64 x13) (.bool (x11 == x13)) (.bool (x11 == x13)) (.bool (x11 == x13)) M) (k (.bool false) undef undef undef (.bool false) (.bool false) M) := by kernel_rfl
theorem r3_6p26 {Ax1 : Option Addr} {lx1 cx1 : Nat} {Ax5 : Option Addr} {lx5 cx5 : Nat} {x61 : Bool} {M : Mem} {call : CallM} {K : Array Value → Mem → R} :
    segK Try.prog true call (O3 [1,1,1,1,1,1,0]) 26 5 #[g0,.slice Ax1 lx1 cx1,g2,g3,g4,.slice Ax5 lx5 cx5,g6,g7,g8,g9,gA,gB,gC,gD,gE,gF,gG,gH,gI,gJ,gK,gL,gM,gN,gO,gP,gQ,gR,gS,gT,gU,gV,gW,gX,gY,gZ,hA,hB,hC,hD,hE,hF,hG,hH,hI,hJ,hK,hL,hM,hN,hO,hP,hQ,hR,hS,hT,hU,hV,hW,hX,hY,.bool x61,h0,h1,h2,h3,h4,h5,h6] M K = withK (fun w61 w62 w63 w64 w65 w66 M => K #[g0,.slice Ax1 lx1 cx1,g2,g3,g4,.slice Ax5 lx5 cx5,g6,g7,g8,g9,gA,gB,gC,gD,gE,gF,gG,gH,gI,gJ,gK,gL,gM,gN,gO,gP,gQ,gR,gS,gT,gU,gV,gW,gX,gY,gZ,hA,hB,hC,hD,hE,hF,hG,hH,hI,hJ,hK,hL,hM,hN,hO,hP,hQ,hR,hS,hT,hU,hV,hW,hX,hY,w61,w62,w63,w64,w65,w66,h5,h6] M) fun k => cond x61 ((call 16 #[.slice Ax5 lx5 cx5, .slice Ax1 lx1 cx1] M).bind fun r_1 => (asB r_1.1).bind fun b_2 => k (.bool true) (.slice Ax5 lx5 cx5) (.slice Ax1 lx1 cx1) (.bool b_2) (.bool b_2) (.bool b_2) r_1.2) (k (.bool false) undef undef undef (.bool false) (.bool false) M) := by kernel_rfl
theorem r3_6p31 {x66 : Bool} {M : Mem} {call : CallM} {K : Array Value → Mem → R} :
    segK Try.prog true call (O3 [1,1,1,1,1,1,0]) 31 3 #[g0,g1,g2,g3,g4,g5,g6,g7,g8,g9,gA,gB,gC,gD,gE,gF,gG,gH,gI,gJ,gK,gL,gM,gN,gO,gP,gQ,gR,gS,gT,gU,gV,gW,gX,gY,gZ,hA,hB,hC,hD,hE,hF,hG,hH,hI,hJ,hK,hL,hM,hN,hO,hP,hQ,hR,hS,hT,hU,hV,hW,hX,hY,hZ,h0,h1,h2,h3,.bool x66,h5,h6] M K = withK (fun w4 w66 w67 w68 M => K #[g0,g1,g2,g3,w4,g5,g6,g7,g8,g9,gA,gB,gC,gD,gE,gF,gG,gH,gI,gJ,gK,gL,gM,gN,gO,gP,gQ,gR,gS,gT,gU,gV,gW,gX,gY,gZ,hA,hB,hC,hD,hE,hF,hG,hH,hI,hJ,hK,hL,hM,hN,hO,hP,hQ,hR,hS,hT,hU,hV,hW,hX,hY,hZ,h0,h1,h2,h3,w66,w67,w68] M) fun k => cond x66 ((call 17 #[] M).bind fun r_1 => (asB r_1.1).bind fun b_2 => k (.bool b_2) (.bool true) (.bool b_2) (.bool b_2) r_1.2) (k (.bool false) (.bool false) undef (.bool false) M) := by kernel_rfl
theorem k3_15 : P3 [1,1,1,1,1,1,1] = .ret := by kernel_rfl
theorem e3 {M : Mem} : finish Try.prog Try.f3 #[g0,g1,g2,g3,g4,g5,g6,g7,g8,g9,gA,gB,gC,gD,gE,gF,gG,gH,gI,gJ,gK,gL,gM,gN,gO,gP,gQ,gR,gS,gT,gU,gV,gW,gX,gY,gZ,hA,hB,hC,hD,hE,hF,hG,hH,hI,hJ,hK,hL,hM,hN,hO,hP,hQ,hR,hS,hT,hU,hV,hW,hX,hY,hZ,h0,h1,h2,h3,h4,h5,h6] M = some (g4, M) := by kernel_rfl
noncomputable def S3_1 : List Item := [.code (P3 [1,1,1,1,1,1,1])]
def A3_1 (Ax1 : Option Addr) (lx1 cx1 : Nat) (Ax5 : Option Addr) (lx5 cx5 : Nat) (Ax6 : Option Addr) (lx6 cx6 : Nat) (Ax8 : Option Addr) (lx8 cx8 : Nat) (x10 : Option Addr) (x11 : Int) (x12 : Option Addr) (x13 : Int) (x46 : Bool) (M : Mem) (Q : Value → Mem → Prop) : Prop := ∀ (g0 g2 g3 g4 g7 g9 gE gF gG gH gI gJ gK gL gM gN gO gP gQ gR gS gT gU gV gW gX gY gZ hA hB hC hD hE hF hG hH hI hJ hL hM hN hO hP hQ hR hS hT hU hV hW hX hY hZ h0 h1 h2 h3 h4 h5 h6 : Value), Rg Try.prog Try.f3 (O3 [1,1,1,1,1,1,0]) true 11 S3_1 #[g0, .slice Ax1 lx1 cx1, g2, g3, g4, .slice Ax5 lx5 cx5, .slice Ax6 lx6 cx6, g7, .slice Ax8 lx8 cx8, g9, .pointer x10, .int .i64 x11, .pointer x12, .int .i64 x13, gE, gF, gG, gH, gI, gJ, gK, gL, gM, gN, gO, gP, gQ, gR, gS, gT, gU, gV, gW, gX, gY, gZ, hA, hB, hC, hD, hE, hF, hG, hH, hI, hJ, .bool x46, hL, hM, hN, hO, hP, hQ, hR, hS, hT, hU, hV, hW, hX, hY, hZ, h0, h1, h2, h3, h4, h5, h6] M Q
noncomputable def S3_2 : List Item := [.code (P3 [1,1,1,1,1,1,1])]
def A3_2 (Ax1 : Option Addr) (lx1 cx1 : Nat) (Ax5 : Option Addr) (lx5 cx5 : Nat) (x10 : Option Addr) (x11 : Int) (x12 : Option Addr) (x13 : Int) (x51 : Bool) (M : Mem) (Q : Value → Mem → Prop) : Prop := ∀ (g0 g2 g3 g4 g6 g7 g8 g9 gE gF gG gH gI gJ gK gL gM gN gO gP gQ gR gS gT gU gV gW gX gY gZ hA hB hC hD hE hF hG hH hI hJ hK hL hM hN hO hQ hR hS hT hU hV hW hX hY hZ h0 h1 h2 h3 h4 h5 h6 : Value), Rg Try.prog Try.f3 (O3 [1,1,1,1,1,1,0]) true 16 S3_2 #[g0, .slice Ax1 lx1 cx1, g2, g3, g4, .slice Ax5 lx5 cx5, g6, g7, g8, g9, .pointer x10, .int .i64 x11, .pointer x12, .int .i64 x13, gE, gF, gG, gH, gI, gJ, gK, gL, gM, gN, gO, gP, gQ, gR, gS, gT, gU, gV, gW, gX, gY, gZ, hA, hB, hC, hD, hE, hF, hG, hH, hI, hJ, hK, hL, hM, hN, hO, .bool x51, hQ, hR, hS, hT, hU, hV, hW, hX, hY, hZ, h0, h1, h2, h3, h4, h5, h6] M Q
noncomputable def S3_3 : List Item := [.code (P3 [1,1,1,1,1,1,1])]
def A3_3 (Ax1 : Option Addr) (lx1 cx1 : Nat) (Ax5 : Option Addr) (lx5 cx5 : Nat) (x11 x13 : Int) (x56 : Bool) (M : Mem) (Q : Value → Mem → Prop) : Prop := ∀ (g0 g2 g3 g4 g6 g7 g8 g9 gA gC gE gF gG gH gI gJ gK gL gM gN gO gP gQ gR gS gT gU gV gW gX gY gZ hA hB hC hD hE hF hG hH hI hJ hK hL hM hN hO hP hQ hR hS hT hV hW hX hY hZ h0 h1 h2 h3 h4 h5 h6 : Value), Rg Try.prog Try.f3 (O3 [1,1,1,1,1,1,0]) true 21 S3_3 #[g0, .slice Ax1 lx1 cx1, g2, g3, g4, .slice Ax5 lx5 cx5, g6, g7, g8, g9, gA, .int .i64 x11, gC, .int .i64 x13, gE, gF, gG, gH, gI, gJ, gK, gL, gM, gN, gO, gP, gQ, gR, gS, gT, gU, gV, gW, gX, gY, gZ, hA, hB, hC, hD, hE, hF, hG, hH, hI, hJ, hK, hL, hM, hN, hO, hP, hQ, hR, hS, hT, .bool x56, hV, hW, hX, hY, hZ, h0, h1, h2, h3, h4, h5, h6] M Q
noncomputable def S3_4 : List Item := [.code (P3 [1,1,1,1,1,1,1])]
def A3_4 (Ax1 : Option Addr) (lx1 cx1 : Nat) (Ax5 : Option Addr) (lx5 cx5 : Nat) (x61 : Bool) (M : Mem) (Q : Value → Mem → Prop) : Prop := ∀ (g0 g2 g3 g4 g6 g7 g8 g9 gA gB gC gD gE gF gG gH gI gJ gK gL gM gN gO gP gQ gR gS gT gU gV gW gX gY gZ hA hB hC hD hE hF hG hH hI hJ hK hL hM hN hO hP hQ hR hS hT hU hV hW hX hY h0 h1 h2 h3 h4 h5 h6 : Value), Rg Try.prog Try.f3 (O3 [1,1,1,1,1,1,0]) true 26 S3_4 #[g0, .slice Ax1 lx1 cx1, g2, g3, g4, .slice Ax5 lx5 cx5, g6, g7, g8, g9, gA, gB, gC, gD, gE, gF, gG, gH, gI, gJ, gK, gL, gM, gN, gO, gP, gQ, gR, gS, gT, gU, gV, gW, gX, gY, gZ, hA, hB, hC, hD, hE, hF, hG, hH, hI, hJ, hK, hL, hM, hN, hO, hP, hQ, hR, hS, hT, hU, hV, hW, hX, hY, .bool x61, h0, h1, h2, h3, h4, h5, h6] M Q
noncomputable def S3_5 : List Item := [.code (P3 [1,1,1,1,1,1,1])]
def A3_5 (x66 : Bool) (M : Mem) (Q : Value → Mem → Prop) : Prop := ∀ (g0 g1 g2 g3 g4 g5 g6 g7 g8 g9 gA gB gC gD gE gF gG gH gI gJ gK gL gM gN gO gP gQ gR gS gT gU gV gW gX gY gZ hA hB hC hD hE hF hG hH hI hJ hK hL hM hN hO hP hQ hR hS hT hU hV hW hX hY hZ h0 h1 h2 h3 h5 h6 : Value), Rg Try.prog Try.f3 (O3 [1,1,1,1,1,1,0]) true 31 S3_5 #[g0, g1, g2, g3, g4, g5, g6, g7, g8, g9, gA, gB, gC, gD, gE, gF, gG, gH, gI, gJ, gK, gL, gM, gN, gO, gP, gQ, gR, gS, gT, gU, gV, gW, gX, gY, gZ, hA, hB, hC, hD, hE, hF, hG, hH, hI, hJ, hK, hL, hM, hN, hO, hP, hQ, hR, hS, hT, hU, hV, hW, hX, hY, hZ, h0, h1, h2, h3, .bool x66, h5, h6] M Q
theorem w3_0 {x0_0 x0_1 : Int} {Ax1 : Option Addr} {lx1 cx1 : Nat} {M : Mem} {Q : Value → Mem → Prop} (H :
    Cn Try.prog 9 #[.slice Ax1 lx1 cx1] (M.new (.cells #[.int .i64 x0_0, .int .i64 x0_1] 23)) fun v1' N1' =>
     ∃ s2', asS v1' = some s2' ∧
     ∃ x3', N1'.intAt .i64 (2 * M.nb.size) 0 = some x3' ∧
     ∃ x4', N1'.intAt .i64 (2 * M.nb.size) (0 + 1) = some x4' ∧
     Cn Try.prog 10 #[.agg #[.int .i64 x3', .int .i64 x4']] N1' fun v5' N5' =>
      ∃ cs6', asU 2 v5' = some cs6' ∧
      ∃ s7', asS (cs6'.getD 0 undef) = some s7' ∧
      ∃ x8', asI .i64 (cs6'.getD 1 undef) = some x8' ∧
      ∃ x9', N5'.intAt .i64 (2 * M.nb.size) 0 = some x9' ∧
      ∃ x10', N5'.intAt .i64 (2 * M.nb.size) (0 + 1) = some x10' ∧
      Cn Try.prog 11 #[.agg #[.int .i64 x9', .int .i64 x10']] N5' fun v11' N11' =>
       ∃ cs12', asU 2 v11' = some cs12' ∧
       ∃ s13', asS (cs12'.getD 0 undef) = some s13' ∧
       ∃ x14', asI .i64 (cs12'.getD 1 undef) = some x14' ∧
       Cn Try.prog 12 #[.slice s2'.1 s2'.2.1 s2'.2.2] N11' fun v15' N15' =>
        ∃ cs16', asU 2 v15' = some cs16' ∧
        ∃ cs17', asA 2 (cs16'.getD 0 undef) = some cs17' ∧
        ∃ x18', asI .i64 (cs17'.getD 0 undef) = some x18' ∧
        ∃ x19', asI .i64 (cs17'.getD 1 undef) = some x19' ∧
        ∃ x20', asI .i64 (cs16'.getD 1 undef) = some x20' ∧
        ∃ M21', (N15'.new (.cells #[.int .i64 0, .int .i64 0] 23)).put (2 * N15'.nb.size) 0 (.int .i64 x18') = some M21' ∧
        ∃ M22', M21'.put (2 * N15'.nb.size) 1 (.int .i64 x19') = some M22' ∧
        Cn Try.prog 13 #[.slice Ax1 lx1 cx1] M22' fun v23' N23' =>
         ∃ cs24', asU 2 v23' = some cs24' ∧
         ∃ cs25', asA 2 (cs24'.getD 0 undef) = some cs25' ∧
         ∃ x26', asI .i64 (cs25'.getD 0 undef) = some x26' ∧
         ∃ x27', asI .i64 (cs25'.getD 1 undef) = some x27' ∧
         ∃ x28', asI .i64 (cs24'.getD 1 undef) = some x28' ∧
         ∃ M29', (N23'.new (.cells #[.int .i64 0, .int .i64 0] 23)).put (2 * N23'.nb.size) 0 (.int .i64 x26') = some M29' ∧
         ∃ M30', M29'.put (2 * N23'.nb.size) 1 (.int .i64 x27') = some M30' ∧
         ∃ x31', M30'.intAt .i64 (2 * M.nb.size) 0 = some x31' ∧
         ∃ x32', M30'.intAt .i64 (2 * M.nb.size) (0 + 1) = some x32' ∧
         ∃ x33', M30'.intAt .i64 (2 * M.nb.size) 0 = some x33' ∧
         ∃ x34', M30'.intAt .i64 (2 * M.nb.size) (0 + 1) = some x34' ∧
         Cn Try.prog 14 #[.agg #[.int .i64 x31', .int .i64 x32']] { M30' with floor := M30'.nb.size } fun v35' N35' =>
          ∃ x36', asI .i64 v35' = some x36' ∧
          Cn Try.prog 15 #[.agg #[.int .i64 x33', .int .i64 x34']] { N35' with floor := M30'.floor } fun v37' N37' =>
           ∃ x38', asI .i64 v37' = some x38' ∧
           ((x36' = x38' →
            A3_1 Ax1 lx1 cx1 s2'.1 s2'.2.1 s2'.2.2 s7'.1 s7'.2.1 s7'.2.2 s13'.1 s13'.2.1 s13'.2.2 (some ⟨2 * N15'.nb.size, 0, none⟩) x20' (some ⟨2 * N23'.nb.size, 0, none⟩) x28' (x8' == x14') N37' Q) ∧
            (x36' ≠ x38' →
            A3_1 Ax1 lx1 cx1 s2'.1 s2'.2.1 s2'.2.2 s7'.1 s7'.2.1 s7'.2.2 s13'.1 s13'.2.1 s13'.2.2 (some ⟨2 * N15'.nb.size, 0, none⟩) x20' (some ⟨2 * N23'.nb.size, 0, none⟩) x28' false N37' Q))) :
    Cn Try.prog 3 #[.agg #[.int .i64 x0_0, .int .i64 x0_1], .slice Ax1 lx1 cx1] M Q := by
  refine Cn.of b3 d3 t3 ?_
  refine Rn.seq k3_0 (Rn.region k3_1 (fun call K => r3_0) (Rch.leaf (Rn.seq k3_2 (Rn.region k3_3 (fun call K => r3_1) (Rch.call H fun v1' N1' H => Rch.ex H fun s2' H => Rch.leaf (Rn.seq k3_4 (Rn.region k3_5 (fun call K => r3_2) (Rch.bind (x := ⟨2 * M.nb.size, 0, none⟩) rfl (Rch.ex H fun x3' H => ?_)))))))))
  refine Rch.ex H fun x4' H => Rch.call H fun v5' N5' H => Rch.ex H fun cs6' H => Rch.ex H fun s7' H => Rch.ex H fun x8' H => Rch.leaf (Rn.seq k3_6 (Rn.region k3_7 (fun call K => r3_3) (Rch.bind (x := ⟨2 * M.nb.size, 0, none⟩) rfl (Rch.ex H fun x9' H => Rch.ex H fun x10' H => Rch.call H fun v11' N11' H => ?_))))
  refine Rch.ex H fun cs12' H => Rch.ex H fun s13' H => Rch.ex H fun x14' H => Rch.leaf (Rn.seq k3_8 (Rn.region k3_9 (fun call K => r3_4) (Rch.call H fun v15' N15' H => Rch.ex H fun cs16' H => Rch.ex H fun cs17' H => Rch.ex H fun x18' H => Rch.ex H fun x19' H => Rch.ex H fun x20' H => ?_)))
  refine Rch.ex H fun M21' H => Rch.ex H fun M22' H => Rch.leaf (Rn.seq k3_10 (Rn.region k3_11 (fun call K => r3_5) (Rch.call H fun v23' N23' H => Rch.ex H fun cs24' H => Rch.ex H fun cs25' H => Rch.ex H fun x26' H => Rch.ex H fun x27' H => Rch.ex H fun x28' H => Rch.ex H fun M29' H => ?_)))
  refine Rch.ex H fun M30' H => Rch.leaf (Rn.seq k3_12 (Rn.regionC k3_14 (Rg.step (d := 11) (j := 11) (fun call K => r3_6p0) rfl rfl (Rch.bind (x := ⟨2 * M.nb.size, 0, none⟩) rfl (Rch.ex H fun x31' H => Rch.ex H fun x32' H => Rch.bind (x := ⟨2 * M.nb.size, 0, none⟩) rfl (Rch.ex H fun x33' H => Rch.ex H fun x34' H => Rch.callF H fun v35' N35' H => ?_))))))
  refine Rch.ex H fun x36' H => Rch.call H fun v37' N37' H => Rch.ex H fun x38' H => ?_
  refine Rch.cB (fun h => ?_) (fun h => ?_)
  · replace H := H.1 (eq_of_beq h)
    refine Rch.rest ?_
    exact H _ _ _ _ _ _ _ _ _ _ _ _ _ _ _ _ _ _ _ _ _ _ _ _ _ _ _ _ _ _ _ _ _ _ _ _ _ _ _ _ _ _ _ _ _ _ _ _ _ _ _ _ _ _ _ _ _ _ _ _
  · replace H := H.2 (ne_of_beq_false h)
    refine Rch.rest ?_
    exact H _ _ _ _ _ _ _ _ _ _ _ _ _ _ _ _ _ _ _ _ _ _ _ _ _ _ _ _ _ _ _ _ _ _ _ _ _ _ _ _ _ _ _ _ _ _ _ _ _ _ _ _ _ _ _ _ _ _ _ _

theorem w3_1 {Ax1 : Option Addr} {lx1 cx1 : Nat} {Ax5 : Option Addr} {lx5 cx5 : Nat} {Ax6 : Option Addr} {lx6 cx6 : Nat} {Ax8 : Option Addr} {lx8 cx8 : Nat} {x10 : Option Addr} {x11 : Int} {x12 : Option Addr} {x13 : Int} {x46 : Bool} {M : Mem} {Q : Value → Mem → Prop} (H :
    ((x46 = true →
     Cn Try.prog 16 #[.slice Ax6 lx6 cx6, .slice Ax8 lx8 cx8] M fun v39' N39' =>
      ∃ b40', asB v39' = some b40' ∧
      A3_2 Ax1 lx1 cx1 Ax5 lx5 cx5 x10 x11 x12 x13 b40' N39' Q) ∧
     (x46 = false →
     A3_2 Ax1 lx1 cx1 Ax5 lx5 cx5 x10 x11 x12 x13 false M Q))) :
    A3_1 Ax1 lx1 cx1 Ax5 lx5 cx5 Ax6 lx6 cx6 Ax8 lx8 cx8 x10 x11 x12 x13 x46 M Q := by
  intro g0 g2 g3 g4 g7 g9 gE gF gG gH gI gJ gK gL gM gN gO gP gQ gR gS gT gU gV gW gX gY gZ hA hB hC hD hE hF hG hH hI hJ hL hM hN hO hP hQ hR hS hT hU hV hW hX hY hZ h0 h1 h2 h3 h4 h5 h6
  refine Rg.step (d := 5) (j := 16) (fun call K => r3_6p11) rfl rfl ?_
  refine Rch.cB (fun h => ?_) (fun h => ?_)
  · replace H := H.1 (h)
    refine Rch.call H fun v39' N39' H => Rch.ex H fun b40' H => Rch.rest ?_
    exact H _ _ _ _ _ _ _ _ _ _ _ _ _ _ _ _ _ _ _ _ _ _ _ _ _ _ _ _ _ _ _ _ _ _ _ _ _ _ _ _ _ _ _ _ _ _ _ _ _ _ _ _ _ _ _ _ _ _ _ _ _ _
  · replace H := H.2 (h)
    refine Rch.rest ?_
    exact H _ _ _ _ _ _ _ _ _ _ _ _ _ _ _ _ _ _ _ _ _ _ _ _ _ _ _ _ _ _ _ _ _ _ _ _ _ _ _ _ _ _ _ _ _ _ _ _ _ _ _ _ _ _ _ _ _ _ _ _ _ _

theorem w3_2 {Ax1 : Option Addr} {lx1 cx1 : Nat} {Ax5 : Option Addr} {lx5 cx5 : Nat} {x10 : Option Addr} {x11 : Int} {x12 : Option Addr} {x13 : Int} {x51 : Bool} {M : Mem} {Q : Value → Mem → Prop} (H :
    ((x51 = true →
     ∃ a41', x10 = some a41' ∧
     ∃ x42', M.intAt .i64 a41'.block a41'.off = some x42' ∧
     ∃ x43', M.intAt .i64 a41'.block (a41'.off + 1) = some x43' ∧
     ∃ a44', x12 = some a44' ∧
     ∃ x45', M.intAt .i64 a44'.block a44'.off = some x45' ∧
     ∃ x46', M.intAt .i64 a44'.block (a44'.off + 1) = some x46' ∧
     ∃ v47', binV Try.prog .eql 23 23 (.agg #[.int .i64 x42', .int .i64 x43']) (.agg #[.int .i64 x45', .int .i64 x46']) = some v47' ∧
     ∃ b48', asB v47' = some b48' ∧
     A3_3 Ax1 lx1 cx1 Ax5 lx5 cx5 x11 x13 b48' M Q) ∧
     (x51 = false →
     A3_3 Ax1 lx1 cx1 Ax5 lx5 cx5 x11 x13 false M Q))) :
    A3_2 Ax1 lx1 cx1 Ax5 lx5 cx5 x10 x11 x12 x13 x51 M Q := by
  intro g0 g2 g3 g4 g6 g7 g8 g9 gE gF gG gH gI gJ gK gL gM gN gO gP gQ gR gS gT gU gV gW gX gY gZ hA hB hC hD hE hF hG hH hI hJ hK hL hM hN hO hQ hR hS hT hU hV hW hX hY hZ h0 h1 h2 h3 h4 h5 h6
  refine Rg.step (d := 5) (j := 21) (fun call K => r3_6p16) rfl rfl ?_
  refine Rch.cB (fun h => ?_) (fun h => ?_)
  · replace H := H.1 (h)
    refine Rch.ex H fun a41' H => Rch.ex H fun x42' H => Rch.ex H fun x43' H => Rch.ex H fun a44' H => Rch.ex H fun x45' H => Rch.ex H fun x46' H => Rch.ex H fun v47' H => Rch.ex H fun b48' H => Rch.rest ?_
    exact H _ _ _ _ _ _ _ _ _ _ _ _ _ _ _ _ _ _ _ _ _ _ _ _ _ _ _ _ _ _ _ _ _ _ _ _ _ _ _ _ _ _ _ _ _ _ _ _ _ _ _ _ _ _ _ _ _ _ _ _ _ _ _ _
  · replace H := H.2 (h)
    refine Rch.rest ?_
    exact H _ _ _ _ _ _ _ _ _ _ _ _ _ _ _ _ _ _ _ _ _ _ _ _ _ _ _ _ _ _ _ _ _ _ _ _ _ _ _ _ _ _ _ _ _ _ _ _ _ _ _ _ _ _ _ _ _ _ _ _ _ _ _ _

theorem w3_3 {Ax1 : Option Addr} {lx1 cx1 : Nat} {Ax5 : Option Addr} {lx5 cx5 : Nat} {x11 x13 : Int} {x56 : Bool} {M : Mem} {Q : Value → Mem → Prop} (H :
    ((x56 = true →
     A3_4 Ax1 lx1 cx1 Ax5 lx5 cx5 (x11 == x13) M Q) ∧
     (x56 = false →
     A3_4 Ax1 lx1 cx1 Ax5 lx5 cx5 false M Q))) :
    A3_3 Ax1 lx1 cx1 Ax5 lx5 cx5 x11 x13 x56 M Q := by
  intro g0 g2 g3 g4 g6 g7 g8 g9 gA gC gE gF gG gH gI gJ gK gL gM gN gO gP gQ gR gS gT gU gV gW gX gY gZ hA hB hC hD hE hF hG hH hI hJ hK hL hM hN hO hP hQ hR hS hT hV hW hX hY hZ h0 h1 h2 h3 h4 h5 h6
  refine Rg.step (d := 5) (j := 26) (fun call K => r3_6p21) rfl rfl ?_
  refine Rch.cB (fun h => ?_) (fun h => ?_)
  · replace H := H.1 (h)
    refine Rch.rest ?_
    exact H _ _ _ _ _ _ _ _ _ _ _ _ _ _ _ _ _ _ _ _ _ _ _ _ _ _ _ _ _ _ _ _ _ _ _ _ _ _ _ _ _ _ _ _ _ _ _ _ _ _ _ _ _ _ _ _ _ _ _ _ _ _ _ _ _ _
  · replace H := H.2 (h)
    refine Rch.rest ?_
    exact H _ _ _ _ _ _ _ _ _ _ _ _ _ _ _ _ _ _ _ _ _ _ _ _ _ _ _ _ _ _ _ _ _ _ _ _ _ _ _ _ _ _ _ _ _ _ _ _ _ _ _ _ _ _ _ _ _ _ _ _ _ _ _ _ _ _

theorem w3_4 {Ax1 : Option Addr} {lx1 cx1 : Nat} {Ax5 : Option Addr} {lx5 cx5 : Nat} {x61 : Bool} {M : Mem} {Q : Value → Mem → Prop} (H :
    ((x61 = true →
     Cn Try.prog 16 #[.slice Ax5 lx5 cx5, .slice Ax1 lx1 cx1] M fun v49' N49' =>
      ∃ b50', asB v49' = some b50' ∧
      A3_5 b50' N49' Q) ∧
     (x61 = false →
     A3_5 false M Q))) :
    A3_4 Ax1 lx1 cx1 Ax5 lx5 cx5 x61 M Q := by
  intro g0 g2 g3 g4 g6 g7 g8 g9 gA gB gC gD gE gF gG gH gI gJ gK gL gM gN gO gP gQ gR gS gT gU gV gW gX gY gZ hA hB hC hD hE hF hG hH hI hJ hK hL hM hN hO hP hQ hR hS hT hU hV hW hX hY h0 h1 h2 h3 h4 h5 h6
  refine Rg.step (d := 5) (j := 31) (fun call K => r3_6p26) rfl rfl ?_
  refine Rch.cB (fun h => ?_) (fun h => ?_)
  · replace H := H.1 (h)
    refine Rch.call H fun v49' N49' H => Rch.ex H fun b50' H => Rch.rest ?_
    exact H _ _ _ _ _ _ _ _ _ _ _ _ _ _ _ _ _ _ _ _ _ _ _ _ _ _ _ _ _ _ _ _ _ _ _ _ _ _ _ _ _ _ _ _ _ _ _ _ _ _ _ _ _ _ _ _ _ _ _ _ _ _ _ _ _ _ _ _
  · replace H := H.2 (h)
    refine Rch.rest ?_
    exact H _ _ _ _ _ _ _ _ _ _ _ _ _ _ _ _ _ _ _ _ _ _ _ _ _ _ _ _ _ _ _ _ _ _ _ _ _ _ _ _ _ _ _ _ _ _ _ _ _ _ _ _ _ _ _ _ _ _ _ _ _ _ _ _ _ _ _ _

theorem w3_5 {x66 : Bool} {M : Mem} {Q : Value → Mem → Prop} (H :
    ((x66 = true →
     Cn Try.prog 17 #[] M fun v51' N51' =>
      ∃ b52', asB v51' = some b52' ∧
      Q (.bool b52') N51') ∧
     (x66 = false →
     Q (.bool false) M))) :
    A3_5 x66 M Q := by
  intro g0 g1 g2 g3 g4 g5 g6 g7 g8 g9 gA gB gC gD gE gF gG gH gI gJ gK gL gM gN gO gP gQ gR gS gT gU gV gW gX gY gZ hA hB hC hD hE hF hG hH hI hJ hK hL hM hN hO hP hQ hR hS hT hU hV hW hX hY hZ h0 h1 h2 h3 h5 h6
  refine Rg.step (d := 3) (j := 34) (fun call K => r3_6p31) rfl rfl ?_
  refine Rch.cB (fun h => ?_) (fun h => ?_)
  · replace H := H.1 (h)
    refine Rch.call H fun v51' N51' H => Rch.ex H fun b52' H => Rch.rest (Rg.done rfl ?_)
    exact Rn.ret k3_15 e3 H
  · replace H := H.2 (h)
    refine Rch.rest (Rg.done rfl ?_)
    exact Rn.ret k3_15 e3 H


end Go.Zt


/- Layer 20: HeadsSeqs: which sequence headers may be, their bytes, and what bytes say. -/
set_option linter.unusedSimpArgs false
set_option linter.unusedVariables false
set_option maxRecDepth 100000
namespace Go.Zt
open Go Go.Sim Go.Proofs Go.RowKit

theorem eq23 (a b c d : Int) : ∃ z : Bool, binV Try.prog .eql 23 23 (.agg #[.int .i64 a, .int .i64 b]) (.agg #[.int .i64 c, .int .i64 d]) = some (.bool z) ∧ (z = true ↔ (a = c ∧ b = d)) := by
  obtain ⟨z, h1, _, h3⟩ := binV_eqA (P := Try.prog) (k := 3) (t := 23) (tb := 23) (xs := [.int .i64 a, .int .i64 b]) (ys := [.int .i64 c, .int .i64 d]) (by decide) (by kernel_rfl) (by kernel_rfl) (by kernel_rfl) (by kernel_rfl) (by kernel_rfl) rfl rfl
  refine ⟨z, h1, h3.trans ⟨fun h => ?_, fun h => by rw [h.1, h.2]⟩⟩
  simp at h; exact h
/-- A value is put into a new variable. -/
theorem newS {M0 M : Mem} (K : Keep M0 M) (x y : Int) (hf : M0.floor ≤ M0.nb.size) : ∃ M1, (M.new (.cells #[.int .i64 0, .int .i64 0] 23)).put (2 * M.nb.size) 0 (.int .i64 x) = some M1 ∧ ∃ M2, M1.put (2 * M.nb.size) 1 (.int .i64 y) = some M2 ∧ Keep M M2 ∧ M2.nb[M.nb.size]? = some (.cells #[.int .i64 x, .int .i64 y] 23) := by
  have a := Mem.new_at M (.cells #[.int .i64 0, .int .i64 0] 23)
  have K1 : Keep M (M.new (.cells #[.int .i64 0, .int .i64 0] 23)) := .new _ _
  obtain ⟨M1, p1, M2, p2, C, u⟩ := set2s a (by rw [K1.floor, K.floor]; exact Nat.le_trans hf K.size) x y
  exact ⟨M1, p1, M2, p2, Keep.step K1 C fun i hi => by omega, u⟩
theorem c3 {M : Mem} {w h : Int} {A : Option Addr} {n c : Nat} {b : List Nat} (hf : M.floor ≤ M.nb.size) (hR : Row M A (U8 b)) (hn : n = b.length) (hb : b.length ≤ 4294967296) (hB : Byt b) :
    Cn Try.prog 3 #[.agg #[.int .i64 w, .int .i64 h], .slice A n c] M fun v N => v = .bool true ∧ Keep M N := by
  have a := Mem.new_at M (.cells #[.int .i64 w, .int .i64 h] 23)
  have K : Keep M (M.new (.cells #[.int .i64 w, .int .i64 h] 23)) := .new _ _
  refine w3_0 ?_
  generalize M.new (.cells #[.int .i64 w, .int .i64 h] 23) = N at a K ⊢
  refine Cn.mono (c9 (fb hf K) (hR.keep K) hn (by omega)) ?_
  rintro _ N1 ⟨A1, c1, rfl, K1, O1, _⟩
  have a1 := at_keep a K1
  have T1 := K.trans K1
  refine ⟨_, rfl, _, int_of (i := 0) a1 rfl, _, int_of (i := 0 + 1) a1 rfl, Cn.mono (c10 (fb hf T1)) ?_⟩
  rintro _ N5 ⟨K5, A5, d5, rfl, R5⟩
  have a5 := at_keep a1 K5
  have T5 := T1.trans K5
  refine ⟨_, rfl, _, rfl, _, rfl, _, int_of (i := 0) a5 rfl, _, int_of (i := 0 + 1) a5 rfl, Cn.mono c11 ?_⟩
  rintro _ N11 ⟨K11, A11, d11, rfl, R11⟩
  have T11 := T5.trans K11
  have R1 := ((O1.row.keep K5).keep K11)
  refine ⟨_, rfl, _, rfl, _, rfl, Cn.mono (c12 (fb hf T11) R1 hn hB hb) ?_⟩
  rintro _ N15 ⟨rfl, K15⟩
  have T15 := T11.trans K15
  obtain ⟨M21, p21, M22, p22, K22, u22⟩ := newS T15 ((rdS b).1 : Int) ((rdS b).2.1 : Int) hf
  have T22 := T15.trans K22
  refine ⟨_, rfl, _, rfl, _, rfl, _, rfl, _, rfl, M21, p21, M22, p22, Cn.mono (c13 (fb hf T22) (hR.keep T22) hn hB) ?_⟩
  rintro _ N23 ⟨rfl, K23⟩
  have T23 := T22.trans K23
  obtain ⟨M29, p29, M30, p30, K30, u30⟩ := newS T23 ((rdS b).1 : Int) ((rdS b).2.1 : Int) hf
  have T30 := T23.trans K30
  have K5to30 := (((K11.trans K15).trans K22).trans K23).trans K30
  have a30 := at_keep a5 K5to30
  refine ⟨_, rfl, _, rfl, _, rfl, _, rfl, _, rfl, M29, p29, M30, p30, _, int_of (i := 0) a30 rfl, _, int_of (i := 0 + 1) a30 rfl, _, int_of (i := 0) a30 rfl, _, int_of (i := 0 + 1) a30 rfl, Cn.mono (c14 (M := { M30 with floor := M30.nb.size })) ?_⟩
  rintro _ N35 ⟨rfl, K35⟩
  have K35' : Keep M30 { N35 with floor := M30.floor } := K35.unfl
  refine ⟨_, rfl, ?_⟩
  generalize { N35 with floor := M30.floor } = N36 at K35' ⊢
  refine Cn.mono c15 ?_
  rintro _ N37 ⟨rfl, K37⟩
  have Kf := (K30.trans K35').trans K37
  have Kg := (K23.trans K30).trans (K35'.trans K37)
  have T37 := (T30.trans K35').trans K37
  have Kh := ((K15.trans K22).trans Kg)
  have KK5 := K11.trans Kh
  refine ⟨_, rfl, fun _ => ?_, fun hne => absurd rfl hne⟩
  rw [show (((chkS w h : Nat) : Int) == ((chkS w h : Nat) : Int)) = true by simp]
  have v22 := at_keep (at_keep u22 K23) Kf
  have v30 := at_keep (at_keep u30 K35') K37
  obtain ⟨z, z1, z2⟩ := eq23 ((rdS b).1 : Int) ((rdS b).2.1 : Int) ((rdS b).1 : Int) ((rdS b).2.1 : Int)
  have hs : (sqb w h).length ≤ 2 := by unfold sqb; split <;> simp
  refine w3_1 ⟨fun _ => Cn.eq (c16 (R5.keep KK5) (R11.keep Kh) rfl rfl (show (sqb w h).length ≤ 4611686018427387904 by omega)) ⟨_, rfl, ?_⟩, fun h => (by cases h)⟩
  rw [decide_eq_true rfl]
  refine w3_2 ⟨fun _ => ⟨_, rfl, _, int_of (i := 0) v22 rfl, _, int_of (i := 0 + 1) v22 rfl, _, rfl, _, int_of (i := 0) v30 rfl, _, int_of (i := 0 + 1) v30 rfl, _, z1, z, rfl, ?_⟩, fun h => (by cases h)⟩
  rw [z2.2 ⟨rfl, rfl⟩]
  refine w3_3 ⟨fun _ => ?_, fun h => (by cases h)⟩
  rw [show ((((rdS b).2.2 : Nat) : Int) == (((rdS b).2.2 : Nat) : Int)) = true by simp]
  refine w3_4 ⟨fun _ => Cn.eq (c16 (R1.keep Kh) (hR.keep T37) hn hn (show n ≤ 4611686018427387904 by omega)) ⟨_, rfl, ?_⟩, fun h => (by cases h)⟩
  rw [decide_eq_true rfl]
  exact w3_5 ⟨fun _ => Cn.known (by rfl) ⟨_, rfl, rfl, T37⟩, fun h => (by cases h)⟩
theorem wf_i64 {x : Int} (h : (Lit.int .i64 x).wf = true) : -9223372036854775808 ≤ x ∧ x ≤ 9223372036854775807 := by
  simp [Lit.wf, IntKind.min, IntKind.max, IntKind.signed, IntKind.bits] at h
  omega
theorem sees_seq {M : Mem} {B k : Nat} {r : List Value} (h : Sees Try.prog M B (k + 2) 23 r) : ∃ x y, r = [.int .i64 x, .int .i64 y] ∧ (-9223372036854775808 ≤ x ∧ x ≤ 9223372036854775807) ∧ (-9223372036854775808 ≤ y ∧ y ≤ 9223372036854775807) := by
  obtain ⟨h1, h2⟩ := sees_struct (l := [(0, 3), (1, 3)]) (n := 2) (by kernel_rfl) (by kernel_rfl) h
  match r, h1 with
  | [a, b], _ =>
    obtain ⟨x, e1, x1⟩ := sees_int (q := .i64) (by kernel_rfl) (h2 (0, 3) (by simp))
    obtain ⟨y, e2, y1⟩ := sees_int (q := .i64) (by kernel_rfl) (h2 (1, 3) (by simp))
    have hc : Try.prog.cellsOf 3 = 1 := by kernel_rfl
    rw [hc] at e1 e2
    simp at e1 e2
    exact ⟨x, y, by rw [e1, e2], wf_i64 x1, wf_i64 y1⟩
end Go.Zt

