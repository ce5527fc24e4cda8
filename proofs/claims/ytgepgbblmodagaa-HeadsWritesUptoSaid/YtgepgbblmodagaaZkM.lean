/- Layer 20: sequence headers: CheckSeq c14 c15, SeqBytes c10 c11, ReadSeq c12 c13. -/
import Derived.Test.YtgepgbblmodagaaZkL
import Derived.Test.YtgepgbblmodagaaZkDa
set_option linter.unusedSimpArgs false
set_option linter.unusedVariables false
namespace Go.Zt
open Go Go.Sim Go.Proofs Go.RowKit
theorem nb {b : Bool} (h : (!b) = true) : b = false := by cases b <;> simp_all
theorem nb' {b : Bool} (h : (!b) = false) : b = true := by cases b <;> simp_all
theorem fb {M N : Mem} (hf : M.floor ≤ M.nb.size) (K : Keep M N) : N.floor ≤ N.nb.size := by rw [K.floor]; exact Nat.le_trans hf K.size
theorem set2s {M : Mem} {j : Nat} {a b : Value} {e : TypeId} (h : M.nb[j]? = some (.cells #[a, b] e)) (hf : M.floor ≤ j) (x y : Int) :
    ∃ M1, M.put (2 * j) 0 (.int .i64 x) = some M1 ∧ ∃ M2, M1.put (2 * j) 1 (.int .i64 y) = some M2 ∧ Chg (· = j) M M2 ∧ M2.nb[j]? = some (.cells #[.int .i64 x, .int .i64 y] e) := by
  have p1 := put_of (i := 0) (v := .int .i64 x) h hf (by simp) rfl
  have C1 := upd_chg (M := M) (S := (· = j)) (b := .cells ((#[a, b] : Array Value).setIfInBounds 0 (.int .i64 x)) e) (j := j) rfl
  have u1 := upd_at (M := M) (b := .cells ((#[a, b] : Array Value).setIfInBounds 0 (.int .i64 x)) e) (lt_of_at h)
  generalize M.upd j _ = M1 at p1 C1 u1
  have p2 := put_of (i := 1) (v := .int .i64 y) u1 (by rw [C1.floor]; exact hf) (by simp) rfl
  have C2 := C1.trans (upd_chg (M := M1) (S := (· = j)) (b := .cells (((#[a, b] : Array Value).setIfInBounds 0 (.int .i64 x)).setIfInBounds 1 (.int .i64 y)) e) (j := j) rfl)
  have u2 := upd_at (M := M1) (b := .cells (((#[a, b] : Array Value).setIfInBounds 0 (.int .i64 x)).setIfInBounds 1 (.int .i64 y)) e) (lt_of_at u1)
  generalize M1.upd j _ = M2 at p2 C2 u2
  exact ⟨M1, p1, M2, p2, C2, u2⟩
def mayS (w h : Int) : Bool := decide (16 ≤ w ∧ w ≤ 256 ∧ 16 ≤ h ∧ h ≤ 256 ∧ w % 2 = 0 ∧ h % 2 = 0)
def chkS (w h : Int) : Nat := if mayS w h then 0 else 2
theorem m2 (x : Int) : (x.tmod 2 == 0) = decide (x % 2 = 0) := by
  rw [Bool.eq_iff_iff]
  simp only [beq_iff_eq, decide_eq_true_eq]
  rw [← Int.dvd_iff_tmod_eq_zero, Int.dvd_iff_emod_eq_zero]
theorem c55 {x a b : Int} {M : Mem} : Cn Try.prog 55 #[.int .i64 x, .int .i64 a, .int .i64 b] M fun v N => v = .bool (decide (a ≤ x ∧ x ≤ b)) ∧ N = M :=
  w55_0 ⟨fun h => ⟨by congr 1; rw [decide_eq_decide]; omega, rfl⟩, fun h => ⟨by rw [decide_eq_false]; omega, rfl⟩⟩
theorem c45 {x a b : Int} {M : Mem} : Cn Try.prog 45 #[.int .i64 x, .int .i64 a, .int .i64 b] M fun v N => v = .bool (decide (a ≤ x ∧ x ≤ b)) ∧ N = M :=
  w45_0 ⟨fun h => ⟨by congr 1; rw [decide_eq_decide]; omega, rfl⟩, fun h => ⟨by rw [decide_eq_false]; omega, rfl⟩⟩
theorem c44 {x : Int} {M : Mem} : Cn Try.prog 44 #[.int .i64 x] M fun v N => v = .bool (decide (16 ≤ x ∧ x ≤ 256 ∧ x % 2 = 0)) ∧ N = M := by
  refine w44_0 (Cn.eq c55 ⟨_, rfl, fun h => ⟨?_, rfl⟩, fun h => ⟨?_, rfl⟩⟩)
  · have := of_decide_eq_true h
    rw [m2]; congr 1; rw [decide_eq_decide]; omega
  · have := of_decide_eq_false h
    congr 1; rw [eq_comm]; exact decide_eq_false (by omega)
def IntK (M : Mem) (x : Int) : Value → Mem → Prop := fun v N => v = .int .i64 x ∧ Keep M N
theorem c14 {w h : Int} {M : Mem} : Cn Try.prog 14 #[.agg #[.int .i64 w, .int .i64 h]] M (IntK M (chkS w h : Nat)) := by
  have a := Mem.new_at M (.cells #[.int .i64 w, .int .i64 h] 23)
  have K : Keep M (M.new (.cells #[.int .i64 w, .int .i64 h] 23)) := .new _ _
  refine w14_0 ?_
  generalize M.new (.cells #[.int .i64 w, .int .i64 h] 23) = N at a K ⊢
  have key : ∀ b, b = !mayS w h → A14_1 b N (IntK M (chkS w h : Nat)) := by
    rintro b rfl
    refine w14_1 ⟨fun hb => ⟨?_, K⟩, fun hb => ⟨?_, K⟩⟩
    · unfold chkS; rw [if_neg (by rw [nb hb]; decide)]; rfl
    · unfold chkS; rw [if_pos (nb' hb)]; rfl
  refine ⟨_, int_of (i := 0) a rfl, Cn.eq c44 ⟨_, rfl, fun hb => key _ ?_, fun hb => ⟨_, int_of (i := 0 + 1) a rfl, Cn.eq c44 ⟨_, rfl, key _ ?_⟩⟩⟩⟩
  · have := of_decide_eq_false (nb hb)
    unfold mayS; rw [decide_eq_false (by omega)]; rfl
  · have := of_decide_eq_true (nb' hb)
    congr 1
    unfold mayS; rw [decide_eq_decide]; omega
theorem c15 {w h : Int} {M : Mem} : Cn Try.prog 15 #[.agg #[.int .i64 w, .int .i64 h]] M (IntK M (chkS w h : Nat)) := by
  have a := Mem.new_at M (.cells #[.int .i64 w, .int .i64 h] 23)
  have K : Keep M (M.new (.cells #[.int .i64 w, .int .i64 h] 23)) := .new _ _
  refine w15_0 ?_
  generalize M.new (.cells #[.int .i64 w, .int .i64 h] 23) = N at a K ⊢
  have key : ∀ b, b = !mayS w h → A15_3 b N (IntK M (chkS w h : Nat)) := by
    rintro b rfl
    refine w15_3 ⟨fun hb => ⟨?_, K⟩, fun hb => ⟨?_, K⟩⟩
    · unfold chkS; rw [if_neg (by rw [nb hb]; decide)]; rfl
    · unfold chkS; rw [if_pos (nb' hb)]; rfl
  have t : ∀ x : Int, (x.tmod 2 != 0) = !decide (x % 2 = 0) := fun x => by rw [← m2]; rfl
  have key2 : ∀ b, b = !decide (16 ≤ w ∧ w ≤ 256 ∧ 16 ≤ h ∧ h ≤ 256 ∧ w % 2 = 0) → A15_2 (some ⟨2 * M.nb.size, 0, none⟩) b N (IntK M (chkS w h : Nat)) := by
    rintro b rfl
    refine w15_2 ⟨fun hb => key _ ?_, fun hb => ⟨_, rfl, _, int_of (i := 0 + 1) a rfl, key _ ?_⟩⟩
    · have := of_decide_eq_false (nb hb)
      unfold mayS; rw [decide_eq_false (by omega)]; rfl
    · have := of_decide_eq_true (nb' hb)
      rw [t]; congr 1; unfold mayS; rw [decide_eq_decide]; omega
  have key1 : ∀ b, b = !decide (16 ≤ w ∧ w ≤ 256 ∧ 16 ≤ h ∧ h ≤ 256) → A15_1 (some ⟨2 * M.nb.size, 0, none⟩) b N (IntK M (chkS w h : Nat)) := by
    rintro b rfl
    refine w15_1 ⟨fun hb => key2 _ ?_, fun hb => ⟨_, rfl, _, int_of (i := 0) a rfl, key2 _ ?_⟩⟩
    · have := of_decide_eq_false (nb hb)
      rw [decide_eq_false (by omega)]; rfl
    · have := of_decide_eq_true (nb' hb)
      rw [t]; congr 1; rw [decide_eq_decide]; omega
  refine ⟨_, int_of (i := 0) a rfl, Cn.eq c45 ⟨_, rfl, fun hb => key1 _ ?_, fun hb => ⟨_, int_of (i := 0 + 1) a rfl, Cn.eq c45 ⟨_, rfl, key1 _ ?_⟩⟩⟩⟩
  · have := of_decide_eq_false (nb hb)
    rw [decide_eq_false (by omega)]; rfl
  · have := of_decide_eq_true (nb' hb)
    congr 1; rw [decide_eq_decide]; omega
def seqN (w h : Int) : Nat := ((w - 16) / 2 * 512 + (h - 16) / 2 * 4).toNat
def sqb (w h : Int) : List Nat := if mayS w h then [seqN w h / 256, seqN w h % 256] else []
def SqR (M : Mem) (w h : Int) : Value → Mem → Prop := fun v N => Keep M N ∧ ∃ A c, v = .tuple #[.slice A (sqb w h).length c, .int .i64 (chkS w h : Nat)] ∧ Row N A (U8 (sqb w h))
theorem row0 {M : Mem} {A : Option Addr} : Row M A [] := fun i h => absurd h (by simp)
theorem frV (M : Mem) (e : TypeId) (L : List Value) {cs : Array Value} (h : L.toArray = cs) : ∃ N, M.new (.cells cs e) = N ∧ Keep M N ∧ Row N (some ⟨2 * M.nb.size, 0, none⟩) L := by
  subst h; exact ⟨_, rfl, .new _ _, Row.new M e L⟩
theorem chk0 {w h : Int} (e : ((chkS w h : Nat) : Int) = 0) : mayS w h = true := by
  unfold chkS at e
  cases hm : mayS w h
  · rw [hm] at e; cases e
  · rfl
theorem chk1 {w h : Int} (e : ((chkS w h : Nat) : Int) ≠ 0) : mayS w h = false := by
  cases hm : mayS w h
  · rfl
  · exact absurd (by unfold chkS; rw [hm]; rfl) e
theorem mayS_of {w h : Int} (e : mayS w h = true) : 16 ≤ w ∧ w ≤ 256 ∧ 16 ≤ h ∧ h ≤ 256 ∧ w % 2 = 0 ∧ h % 2 = 0 := of_decide_eq_true e
theorem c11 {w h : Int} {M : Mem} : Cn Try.prog 11 #[.agg #[.int .i64 w, .int .i64 h]] M (SqR M w h) := by
  have a := Mem.new_at M (.cells #[.int .i64 w, .int .i64 h] 23)
  have K : Keep M (M.new (.cells #[.int .i64 w, .int .i64 h] 23)) := .new _ _
  refine w11_0 ?_
  generalize M.new (.cells #[.int .i64 w, .int .i64 h] 23) = N at a K ⊢
  refine ⟨_, int_of (i := 0) a rfl, _, int_of (i := 0 + 1) a rfl, Cn.mono c15 ?_⟩
  rintro _ N3 ⟨rfl, K3⟩
  have a3 := at_keep a K3
  refine ⟨_, rfl, fun he => ?_, fun he => ?_⟩
  · have hm := chk1 he
    have e : sqb w h = [] := by unfold sqb; rw [hm]; rfl
    refine ⟨K.trans K3, none, 0, ?_, ?_⟩
    · rw [e]; rfl
    · rw [e]; exact row0
  · have hm := chk0 he
    obtain ⟨h1, h2, h3, h4, h5, h6⟩ := mayS_of hm
    have e : sqb w h = [seqN w h / 256, seqN w h % 256] := by unfold sqb; rw [hm]; rfl
    have t1 : (w - 16).tdiv 2 = (w - 16) / 2 := Int.tdiv_eq_ediv_of_nonneg (by omega)
    have t2 : (h - 16).tdiv 2 = (h - 16) / 2 := Int.tdiv_eq_ediv_of_nonneg (by omega)
    have g : (w - 16) / 2 * 512 + (h - 16) / 2 * 4 = ((seqN w h : Nat) : Int) := by unfold seqN; omega
    have gb : seqN w h < 65536 := by unfold seqN; omega
    refine ⟨_, int_of (i := 0) a3 rfl, _, int_of (i := 0 + 1) a3 rfl, ?_⟩
    simp only [i64w (x := w - 16) (by omega), i64w (x := h - 16) (by omega), t1, t2, i64w (x := (w - 16) / 2) (by omega), i64w (x := (h - 16) / 2) (by omega), i64w (x := (w - 16) / 2 * 512) (by omega), i64w (x := (h - 16) / 2 * 4) (by omega), g, i64w (x := ((seqN w h : Nat) : Int)) (by omega)]
    generalize seqN w h = q at *
    have t3 : ((q : Nat) : Int).tdiv 256 = ((q / 256 : Nat) : Int) := by rw [Int.tdiv_eq_ediv_of_nonneg (by omega)]; omega
    have t4 : ((q : Nat) : Int).tmod 256 = ((q % 256 : Nat) : Int) := by rw [Int.tmod_eq_emod_of_nonneg (by omega)]; omega
    simp only [t3, t4, i64w (x := ((q / 256 : Nat) : Int)) (by omega), u8w (x := ((q / 256 : Nat) : Int)) (by omega), u8w (x := ((q % 256 : Nat) : Int)) (by omega)]
    obtain ⟨N5, e5, K5, R5⟩ := frV N3 5 (U8 [q / 256, q % 256]) rfl
    refine ⟨K.trans (K3.trans ?_), some ⟨2 * N3.nb.size, 0, none⟩, 2, ?_, ?_⟩
    · rw [← e5] at K5; exact K5
    · rw [e]; unfold chkS; rw [hm]; rfl
    · rw [e, ← e5] at *; exact R5
theorem packS (a b : Nat) (ha : a < 121) (hb : b < 121) : pack (bitsN a 7 ++ bitsN b 7) = [(a * 512 + b * 4) / 256, (a * 512 + b * 4) % 256] := by
  simp [pack, gbyte, bitL, numb, bitsN, List.range_succ]
  omega
theorem c10 {w h : Int} {M : Mem} (hf : M.floor ≤ M.nb.size) : Cn Try.prog 10 #[.agg #[.int .i64 w, .int .i64 h]] M (SqR M w h) := by
  have a := Mem.new_at M (.cells #[.int .i64 w, .int .i64 h] 23)
  have K : Keep M (M.new (.cells #[.int .i64 w, .int .i64 h] 23)) := .new _ _
  refine w10_0 ?_
  generalize M.new (.cells #[.int .i64 w, .int .i64 h] 23) = N at a K ⊢
  refine ⟨_, int_of (i := 0) a rfl, _, int_of (i := 0 + 1) a rfl, Cn.mono c14 ?_⟩
  rintro _ N3 ⟨rfl, K3⟩
  have a3 := at_keep a K3
  have K0 := K.trans K3
  refine ⟨_, rfl, fun he => ?_, fun he => ?_⟩
  · have hm := chk1 he
    have e : sqb w h = [] := by unfold sqb; rw [hm]; rfl
    refine ⟨K0, none, 0, ?_, ?_⟩
    · rw [e]; rfl
    · rw [e]; exact row0
  · have hm := chk0 he
    obtain ⟨h1, h2, h3, h4, h5, h6⟩ := mayS_of hm
    have t1 : (w - 16).tdiv 2 = (((w - 16) / 2).toNat : Int) := by rw [Int.tdiv_eq_ediv_of_nonneg (by omega)]; omega
    have t2 : (h - 16).tdiv 2 = (((h - 16) / 2).toNat : Int) := by rw [Int.tdiv_eq_ediv_of_nonneg (by omega)]; omega
    have e : sqb w h = [(((w - 16) / 2).toNat * 512 + ((h - 16) / 2).toNat * 4) / 256, (((w - 16) / 2).toNat * 512 + ((h - 16) / 2).toNat * 4) % 256] := by
      have : seqN w h = ((w - 16) / 2).toNat * 512 + ((h - 16) / 2).toNat * 4 := by unfold seqN; omega
      unfold sqb; rw [hm, this]; rfl
    have ec : chkS w h = 0 := by unfold chkS; rw [hm]; rfl
    have x1 : ((w - 16) / 2).toNat < 121 := by omega
    have x2 : ((h - 16) / 2).toNat < 121 := by omega
    have y1 : IntKind.u32.wrap ((IntKind.u32.wrap (IntKind.i64.wrap (w - 16))).tdiv 2) = (((w - 16) / 2).toNat : Int) := by
      rw [i64w (x := w - 16) (by omega), u32w (x := w - 16) (by omega), t1, u32w (by omega)]
    have y2 : IntKind.u32.wrap ((IntKind.u32.wrap (IntKind.i64.wrap (h - 16))).tdiv 2) = (((h - 16) / 2).toNat : Int) := by
      rw [i64w (x := h - 16) (by omega), u32w (x := h - 16) (by omega), t2, u32w (by omega)]
    generalize ((w - 16) / 2).toNat = p at *
    generalize ((h - 16) / 2).toNat = q at *
    have f3 := fb hf K0
    refine Cn.mono c19 ?_
    rintro _ N5 ⟨rfl, K5, s5, W5⟩
    have a5 := at_keep a3 K5
    have W : Wr (fun i => N5.nb.size ≤ i) N5 N3.nb.size [] := ⟨by show ¬ (N5.nb.size ≤ _); omega, W5.bin, W5.len, by obtain ⟨A, c, g1, g2, g3⟩ := W5.ex; exact ⟨A, c, g1, g2.mono fun i _ hi => hi.elim, g3⟩⟩
    have F : Fl (fun i => N5.nb.size ≤ i) N5 N3.nb.size := ⟨fun i hi => by rw [K5.floor]; rcases hi with hi | hi <;> omega, fun i hi => hi⟩
    have w1 : wFixed [] p 7 = (0, [] ++ bitsN p 7) := by unfold wFixed; rw [if_neg (by simp; omega)]; rfl
    have w2 : wFixed ([] ++ bitsN p 7) q 7 = (0, [] ++ bitsN p 7 ++ bitsN q 7) := by unfold wFixed; rw [if_neg (by simp; omega)]; rfl
    refine ⟨_, rfl, _, int_of (i := 0) a5 rfl, _, int_of (i := 0 + 1) a5 rfl, w10_1 ⟨fun _ => ⟨.int .i64 w, by kernel_rfl, w, rfl, Cn.mono (c22 F W y1 (by omega) 7 (by simp)) ?_⟩, fun h => absurd (by decide) h⟩⟩
    rw [w1]
    rintro _ N6 ⟨rfl, K6, W6⟩
    refine ⟨_, rfl, fun h => absurd rfl h, fun _ => w10_1 ⟨fun _ => ⟨.int .i64 h, by kernel_rfl, h, rfl, Cn.mono (c22 (F.chg K6) W6 y2 (by omega) 7 (by simp [bitsN])) ?_⟩, fun h => absurd (by decide) h⟩⟩
    rw [w2]
    rintro _ N7 ⟨rfl, K7, W7⟩
    have f7 : N7.floor ≤ N7.nb.size := by
      have := K6.size; have := K7.size; have := K5.size
      rw [K7.floor, K6.floor, K5.floor]; omega
    refine ⟨_, rfl, fun h => absurd rfl h, fun _ => w10_1 ⟨fun h => absurd h (by decide), fun _ => Cn.mono (c28 W7 f7) ?_⟩⟩
    rintro _ N8 ⟨A, c, rfl, K8, O8, _⟩
    have hp : pack ([] ++ bitsN p 7 ++ bitsN q 7) = sqb w h := by rw [e, List.nil_append]; exact packS p q x1 x2
    dsimp only at O8
    rw [hp] at O8
    have big : ∀ i, (N5.nb.size ≤ i ∨ i = N3.nb.size) → M.nb.size ≤ i := fun i hi => by have := K0.size; have := K5.size; omega
    refine ⟨_, rfl, (Keep.step (Keep.step (K0.trans K5) K6 big) K7 big).trans K8, A, c, ?_, O8.row⟩
    rw [ec, ← hp]; rfl
end Go.Zt
