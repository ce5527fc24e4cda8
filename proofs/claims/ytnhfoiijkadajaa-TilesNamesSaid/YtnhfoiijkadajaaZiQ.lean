/- Layer 21: TilesNames. -/
import Derived.Test.YtnhfoiijkadajaaZiO
import Derived.Test.YtnhfoiijkadajaaZiDc
import Derived.Test.YtnhfoiijkadajaaZeE
import Derived.Test.YtnhfoiijkadajaaZeI
set_option linter.unusedSimpArgs false
set_option linter.unusedVariables false
namespace Go.Zu
open Go Go.Sim Go.Proofs Go.RowKit
abbrev Tr9 : Value → Mem → Prop := fun v _ => v = .bool true
theorem frV (M : Mem) (e : TypeId) (L : List Value) {cs : Array Value} (h : L.toArray = cs) : ∃ N, M.new (.cells cs e) = N ∧ Keep M N ∧ Row N (some ⟨2 * M.nb.size, 0, none⟩) L := by
  subst h; exact ⟨_, rfl, .new _ _, Row.new M e L⟩
structure Il where
  l : List Int
  A : Option Addr
  c : Nat
abbrev Il.cells (o : Il) : List Value := [.slice o.A o.l.length o.c]
def IlR (M : Mem) (T : Option Addr) (ts : List Il) : Prop := Row M T (ts.flatMap Il.cells) ∧ ∀ t ∈ ts, Row M t.A (Go.Zt.Ints t.l)
theorem IlR.chg {M N : Mem} {A : Option Addr} {l : List Il} (h : IlR M A l) (K : Keep M N) : IlR N A l := ⟨h.1.keep K, fun o ho => (h.2 o ho).keep K⟩
theorem IlR.at {M : Mem} {A : Option Addr} {l : List Il} (h : IlR M A l) {n i : Nat} {z : Int} (hz : z = (i : Int)) (hn : i < n) (hi : i < l.length) :
    ∃ a, idxA A n 1 z = some a ∧ M.slAt a.block a.off = some (l[i].A, l[i].l.length, l[i].c) := by
  obtain ⟨a, h1, h2⟩ := Row.flat (f := Il.cells) (s := 1) (fun _ => rfl) h.1 (by decide) hz hn hi
  refine ⟨a, h1, ?_⟩
  have := h2 0 (by decide)
  simp only [Nat.add_zero] at this
  simp only [Mem.slAt, this]; rfl
theorem u8byt {b : List Nat} (h : b.all (fun x => decide (x < 256)) = true) : Byt b := fun x hx => of_decide_eq_true (List.all_eq_true.1 h x hx)
theorem nilR {M : Mem} : BsR M none [] := ⟨Row.nil, fun o h => (by cases h)⟩
theorem made45 {M1 : Mem} : ∃ M2, makeP Try.prog 45 (.int .i64 17) (.int .i64 17) M1 = some (.slice (some ⟨2 * M1.nb.size, 0, none⟩) 17 17, M2) ∧ Keep M1 M2 ∧ Row M2 (some ⟨2 * M1.nb.size, 0, none⟩) (List.replicate 17 (.slice none 0 0)) := by
  obtain ⟨i, h1, h2, h4, h5⟩ := el45.info
  refine ⟨M1.new (.cells (List.replicate 17 (.slice none 0 0)).toArray 46), ?_, .new _ _, Row.new M1 46 _⟩
  simp only [makeP, el45.slice, h1, h2, h4, h5, Option.bind_some]
  rw [if_pos ⟨rfl, rfl, by decide, by decide, by decide, by decide, by decide⟩]
  rfl
theorem em46 : Elem Try.prog 46 5 1 (.int .u8 0) := ⟨by kernel_rfl, by kernel_rfl, rfl, by decide, by decide⟩
theorem nilB {M : Mem} : Row M none (U8 []) := Row.nil
theorem reps (k : Nat) : (List.replicate k (⟨[], none, 0⟩ : Bs)).flatMap Bs.cells = List.replicate k (.slice none 0 0) := by
  induction k with
  | zero => rfl
  | succ k ih => rw [List.replicate_succ, List.flatMap_cons, ih]; rfl
theorem made46 {M1 : Mem} {k : Nat} (hk : k ≤ 100000) : ∃ A' M2, makeP Try.prog 46 (.int .i64 (k : Nat)) (.int .i64 (k : Nat)) M1 = some (.slice A' k k, M2) ∧ Keep M1 M2 ∧ Row M2 A' (U8 (List.replicate k 0)) := by
  obtain ⟨A', M2, g1, g2, g3, g4⟩ := make_own em46 (S := fun j => M1.nb.size ≤ j) (M := M1) (k := .i64) (k' := .i64) (l := (k : Nat)) (c := (k : Nat)) (by omega) (Int.le_refl _) (by omega) (Nat.le_refl _)
  refine ⟨A', M2, g1, Keep.step (.refl _) g2 fun j hj => hj, ?_⟩
  rw [U8, List.map_replicate]; exact g4.row
theorem zbyt (k : Nat) : Byt (List.replicate k 0) := fun x hx => by rw [(List.mem_replicate.1 hx).2]; decide
theorem c9_end {M : Mem} (hf : M.floor ≤ M.nb.size) {T : Option Addr} {ct : Nat} {x7 : Int} {n : Nat} (hx : ¬ x7 < (n : Int)) : A9_3 T n ct x7 M Tr9 := by
  obtain ⟨M1, a1, K1, a4⟩ := made45 (M1 := M)
  have R1 : ∀ k, k ≤ 17 → ∀ N, Keep M1 N → ∀ A', Row N A' (List.replicate k (.slice none 0 0)) → BsR N A' (List.replicate k ⟨[], none, 0⟩) := fun k _ N KN A' h => ⟨by unfold Bss; rw [reps]; exact h, fun o ho => by rw [(List.mem_replicate.1 ho).2]; exact Row.nil⟩
  refine w9_3 ⟨fun h => absurd h hx, fun _ => ⟨_, a1, _, rfl, Cn.eq c14 ⟨_, rfl, fun _ => ?_, fun h => (by cases h)⟩⟩⟩
  obtain ⟨N2, e2, K2, F2⟩ := frV M1 5 (U8 [1, 7, 0]) (cs := #[.int .u8 1, .int .u8 7, .int .u8 0]) rfl
  rw [e2]
  have K02 := K1.trans K2
  have hl : ∀ k : Nat, ∀ o ∈ List.replicate k (⟨[], none, 0⟩ : Bs), o.b.length ≤ 1048576 := fun k o ho => by rw [(List.mem_replicate.1 ho).2]; decide
  refine Cn.mono (c7 (l := List.replicate 17 ⟨[], none, 0⟩) (b := [1, 7, 0]) (n := 17) (nb' := 3) (fb hf K02) (R1 17 (by decide) _ K2 _ (a4.keep K2)) (by simp) (by decide) (hl 17) F2 rfl (by decide) (u8byt rfl)) ?_
  rintro _ N3 ⟨rfl, K3⟩
  have K03 := K02.trans K3
  have K13 := K2.trans K3
  have R17 := a4.keep K13
  obtain ⟨B, s3, R3, _, _⟩ := slice_row el45 (n := 17) (c := 17) (l := 0) (h := 16) (lo := none) (hi := some (.int .i64 16)) R17 (by simp) (Nat.le_refl _) (fun h => (by cases h)) rfl (bound_lo (l := 16) rfl (by omega)) (by omega) (by omega)
  have R3' : Row N3 B (List.replicate 16 (.slice none 0 0)) := R3
  refine ⟨_, rfl, w9_6 ⟨fun _ => ⟨_, s3, _, rfl, ?_⟩, fun h => (by cases h)⟩⟩
  obtain ⟨N4, e4, K4, F4⟩ := frV N3 5 (U8 [1, 7, 0]) (cs := #[.int .u8 1, .int .u8 7, .int .u8 0]) rfl
  rw [e4]
  have K04 := K03.trans K4
  refine Cn.mono (c7 (l := List.replicate 16 ⟨[], none, 0⟩) (b := [1, 7, 0]) (n := 16) (nb' := 3) (fb hf K04) (R1 16 (by decide) _ (K13.trans K4) _ (R3'.keep K4)) (by simp) (by decide) (hl 16) F4 rfl (by decide) (u8byt rfl)) ?_
  rintro _ N5 ⟨rfl, K5⟩
  have K05 := K04.trans K5
  refine ⟨_, rfl, w9_8 ⟨fun _ => ?_, fun h => (by cases h)⟩⟩
  obtain ⟨N6, e6, K6, F6⟩ := frV N5 5 (U8 [2, 7]) (cs := #[.int .u8 2, .int .u8 7]) rfl
  rw [e6]
  have K06 := K05.trans K6
  refine Cn.mono (c7 (l := []) (b := [2, 7]) (n := 0) (nb' := 2) (fb hf K06) nilR rfl (by decide) (fun o h => (by cases h)) F6 rfl (by decide) (u8byt rfl)) ?_
  rintro _ N7 ⟨rfl, K7⟩
  have K07 := K06.trans K7
  refine ⟨_, rfl, w9_9 ⟨fun _ => ?_, fun h => (by cases h)⟩⟩
  obtain ⟨Z, N8, z1, z2, z3⟩ := made46 (M1 := N7) (k := 300) (by decide)
  refine ⟨_, z1, _, rfl, ?_⟩
  obtain ⟨N9, e9, K9, F9⟩ := frV N8 46 (Bss [⟨List.replicate 300 0, Z, 300⟩]) (cs := #[.slice Z 300 300]) (by show List.toArray [Value.slice Z (List.replicate 300 0).length 300] = _; rw [List.length_replicate])
  show Cn Try.prog 7 #[.slice (some ⟨2 * N8.nb.size, 0, none⟩) 1 1, .slice none 0 0, .int .i64 1] (N8.new (.cells #[.slice Z 300 300] 46)) _
  rw [e9]
  have K09 := (K07.trans z2).trans K9
  refine Cn.mono (c7 (l := [⟨List.replicate 300 0, Z, 300⟩]) (b := []) (n := 1) (nb' := 0) (fb hf K09) ⟨F9, fun o ho => by rw [List.mem_singleton.1 ho]; exact z3.keep K9⟩ rfl (by decide) (fun o ho => by rw [List.mem_singleton.1 ho, List.length_replicate]; decide) nilB rfl (by decide) (u8byt rfl)) ?_
  rintro _ Na ⟨rfl, Ka⟩
  have K0a := K09.trans Ka
  refine ⟨_, rfl, w9_10 ⟨fun _ => ?_, fun h => (by cases h)⟩⟩
  obtain ⟨Nb, eb, Kb, Fb⟩ := frV Na 5 (U8 [128, 0]) (cs := #[.int .u8 128, .int .u8 0]) rfl
  rw [eb]
  have K0b := K0a.trans Kb
  refine Cn.mono (c7 (l := []) (b := [128, 0]) (n := 0) (nb' := 2) (fb hf K0b) nilR rfl (by decide) (fun o h => (by cases h)) Fb rfl (by decide) (u8byt rfl)) ?_
  rintro _ Nc ⟨rfl, Kc⟩
  have K0c := K0b.trans Kc
  refine ⟨_, rfl, w9_11 ⟨fun _ => ?_, fun h => (by cases h)⟩⟩
  obtain ⟨Nd, ed, Kd, Fd⟩ := frV Nc 5 (U8 [255, 255, 255, 255, 15]) (cs := #[.int .u8 255, .int .u8 255, .int .u8 255, .int .u8 255, .int .u8 15]) rfl
  rw [ed]
  have K0d := K0c.trans Kd
  refine Cn.mono (c7 (l := []) (b := [255, 255, 255, 255, 15]) (n := 0) (nb' := 5) (fb hf K0d) nilR rfl (by decide) (fun o h => (by cases h)) Fd rfl (by decide) (u8byt rfl)) ?_
  rintro _ Ne ⟨rfl, Ke⟩
  have K0e := K0d.trans Ke
  refine ⟨_, rfl, w9_12 ⟨fun _ => ?_, fun h => (by cases h)⟩⟩
  obtain ⟨Nf, ef, Kf, Ff⟩ := frV Ne 5 (U8 [0]) (cs := #[.int .u8 0]) rfl
  rw [ef]
  have K0f := K0e.trans Kf
  refine Cn.mono (c7 (l := []) (b := [0]) (n := 0) (nb' := 1) (fb hf K0f) nilR rfl (by decide) (fun o h => (by cases h)) Ff rfl (by decide) (u8byt rfl)) ?_
  rintro _ Ng ⟨rfl, Kg⟩
  have K0g := K0f.trans Kg
  refine ⟨_, rfl, w9_13 ⟨fun _ => ?_, fun h => (by cases h)⟩⟩
  obtain ⟨Y, Nh, y1, y2, y3⟩ := made46 (M1 := Ng) (k := 17) (by decide)
  refine ⟨_, y1, _, rfl, ?_⟩
  refine Cn.mono (c7 (l := []) (b := List.replicate 17 0) (n := 0) (nb' := 17) (fb hf (K0g.trans y2)) nilR rfl (by decide) (fun o h => (by cases h)) y3 rfl (by decide) (zbyt 17)) ?_
  rintro _ Ni ⟨rfl, _⟩
  exact ⟨_, rfl, rfl⟩
theorem c9_5 {M0 : Mem} (hf : M0.floor ≤ M0.nb.size) {T : Option Addr} {ct : Nat} {ts : List Il} (hT : IlR M0 T ts) (hts : ∀ t ∈ ts, t.l.length ≤ 1048576) (hb : ts.length ≤ 1048576) {i : Nat} (hi : i < ts.length)
    (hE : ∀ N, Keep M0 N → A9_3 T ts.length ct ((i + 1 : Nat) : Int) N Tr9) :
    ∀ (m : Nat) (w : Int) {M : Mem}, w + m = 3 → -1 ≤ w → Keep M0 M → A9_5 T ts.length ct (i : Nat) w M Tr9 := by
  have hl := hts _ (List.getElem_mem hi)
  intro m
  induction m with
  | zero =>
    intro w M hm hw K
    obtain ⟨a, i1, i2⟩ := (hT.chg K).at (n := ts.length) (z := (i : Nat)) rfl hi hi
    refine w9_5 ⟨fun h => by omega, fun _ => ⟨_, i1, _, i2, ?_⟩⟩
    obtain ⟨N1, e1, K1, F1⟩ := frV M 3 (Go.Zt.Ints [4611686018427387904, -9223372036854775808]) (cs := #[.int .i64 4611686018427387904, .int .i64 (-9223372036854775808)]) rfl
    rw [e1]
    have K01 := K.trans K1
    refine Cn.mono (Go.Zt.c3 (l := ts[i].l) (picks := [4611686018427387904, -9223372036854775808]) (n := ts[i].l.length) (lp := 2) (fb hf K01) (((hT.chg K01).2 _ (List.getElem_mem hi))) rfl (by omega) F1 rfl (by decide)) ?_
    rintro _ N2 ⟨rfl, K2⟩
    have K02 := K01.trans K2
    obtain ⟨a', i3, i4⟩ := (hT.chg K02).at (n := ts.length) (z := (i : Nat)) rfl hi hi
    refine ⟨_, rfl, fun h => (by cases h), fun _ => ⟨_, i3, _, i4, ?_⟩⟩
    refine Cn.mono (Go.Zt.c3 (l := ts[i].l) (picks := []) (n := ts[i].l.length) (lp := 0) (fb hf K02) (((hT.chg K02).2 _ (List.getElem_mem hi))) rfl (by omega) Row.nil rfl (by decide)) ?_
    rintro _ N3 ⟨rfl, K3⟩
    refine ⟨_, rfl, w9_7 ⟨fun h => (by cases h), fun _ => ?_⟩⟩
    rw [i64w (by omega), show ((i : Int) + 1) = ((i + 1 : Nat) : Int) by omega]
    exact hE N3 (K02.trans K3)
  | succ m ih =>
    intro w M hm hw K
    obtain ⟨a, i1, i2⟩ := (hT.chg K).at (n := ts.length) (z := (i : Nat)) rfl hi hi
    refine w9_5 ⟨fun _ => ⟨_, i1, _, i2, ?_⟩, fun h => by omega⟩
    obtain ⟨N1, e1, K1, F1⟩ := frV M 3 (Go.Zt.Ints [1, 1, 0, -5]) (cs := #[.int .i64 1, .int .i64 1, .int .i64 0, .int .i64 (-5)]) rfl
    rw [e1]
    have K01 := K.trans K1
    refine Cn.mono (Go.Zt.c3 (l := ts[i].l) (picks := [1, 1, 0, -5]) (n := ts[i].l.length) (lp := 4) (fb hf K01) (((hT.chg K01).2 _ (List.getElem_mem hi))) rfl (by omega) F1 rfl (by decide)) ?_
    rintro _ N2 ⟨rfl, K2⟩
    refine ⟨_, rfl, fun h => (by cases h), fun _ => ?_⟩
    rw [i64w (by omega)]
    exact ih (w + 1) (by omega) (by omega) (K01.trans K2)
theorem c9_3 {M0 : Mem} (hf : M0.floor ≤ M0.nb.size) {T : Option Addr} {ct : Nat} {ts : List Il} (hT : IlR M0 T ts) (hts : ∀ t ∈ ts, t.l.length ≤ 1048576) (hb : ts.length ≤ 1048576) :
    ∀ (m i : Nat) {M : Mem}, i + m = ts.length → Keep M0 M → A9_3 T ts.length ct (i : Nat) M Tr9 := by
  intro m
  induction m with
  | zero => intro i M hi K; exact c9_end (fb hf K) (by omega)
  | succ m ih =>
    intro i M hi K
    refine w9_3 ⟨fun _ => ?_, fun h => by omega⟩
    exact c9_5 (M0 := M) (fb hf K) (hT.chg K) hts hb (by omega) (fun N KN => ih (i + 1) (by omega) (K.trans KN)) 4 (-1) (by decide) (by decide) (.refl _)
abbrev p2 (p : Int × Int) : List Value := [.int .i64 p.1, .int .i64 p.2]
def sq6 : List (Int × Int) := [(130, 70), (16, 16), (256, 256), (15, 16), (258, 16), (0, 0)]
def rc6 : List Go.Zt.Rc := [(64, 0, 72, 72), (0, 0, 0, 0), (0, 0, 256, 256), (0, 0, 257, 1), (-1, 0, 1, 1), (256, 256, 1, 1)]
theorem p2_at {M : Mem} {A : Option Addr} {l : List (Int × Int)} (h : Row M A (l.flatMap p2)) {n i : Nat} {z : Int} (hz : z = (i : Int)) (hn : i < n) (hi : i < l.length) :
    ∃ a, idxA A n 2 z = some a ∧ M.intAt .i64 a.block a.off = some l[i].1 ∧ M.intAt .i64 a.block (a.off + 1) = some l[i].2 := by
  obtain ⟨a, h1, h2⟩ := Row.flat (f := p2) (s := 2) (fun _ => rfl) h (by decide) hz hn hi
  exact ⟨a, h1, cell_int (h2 0 (by decide)), cell_int (h2 1 (by decide))⟩
theorem c9_2 {M0 : Mem} (hf : M0.floor ≤ M0.nb.size) {S R : Option Addr} {cs cr : Nat} (hS : Row M0 S (sq6.flatMap p2)) (hR : Row M0 R (Go.Zt.Rcs rc6)) {i : Nat} (hi : i < 6)
    (hE : ∀ N, Keep M0 N → A9_1 S 6 cs R 6 cr ((i + 1 : Nat) : Int) N Tr9) :
    ∀ (m : Nat) (k : Int) {M : Mem}, k + m = 4 → -1 ≤ k → Keep M0 M → A9_2 S 6 cs R 6 cr (i : Nat) k M Tr9 := by
  intro m
  induction m with
  | zero =>
    intro k M hm hk K
    refine w9_2 ⟨fun h => by omega, fun _ => ?_⟩
    rw [i64w (by omega), show ((i : Int) + 1) = ((i + 1 : Nat) : Int) by omega]
    exact hE M K
  | succ m ih =>
    intro k M hm hk K
    have rs : ∀ {N}, Keep M0 N → ∃ a, idxA S 6 2 (i : Nat) = some a ∧ N.intAt .i64 a.block a.off = some (sq6[i]'hi).1 ∧ N.intAt .i64 a.block (a.off + 1) = some (sq6[i]'hi).2 := fun K => p2_at (hS.keep K) rfl hi hi
    have rr : ∀ {N}, Keep M0 N → ∃ a, idxA R 6 4 (i : Nat) = some a ∧ N.intAt .i64 a.block a.off = some (rc6[i]'hi).1 ∧ N.intAt .i64 a.block (a.off + 1) = some (rc6[i]'hi).2.1 ∧ N.intAt .i64 a.block (a.off + 2) = some (rc6[i]'hi).2.2.1 ∧ N.intAt .i64 a.block (a.off + 3) = some (rc6[i]'hi).2.2.2 := fun K => Go.Zt.Rcs_at (hR.keep K) rfl hi hi
    obtain ⟨a, a1, a2, a3⟩ := rs K
    obtain ⟨b, b1, b2, b3, b4, b5⟩ := rr K
    refine w9_2 ⟨fun _ => ⟨_, a1, _, a2, _, a3, _, b1, _, b2, _, b3, _, b4, _, b5, Cn.mono (Go.Zt.c5 (fb hf K)) ?_⟩, fun h => by omega⟩
    rintro _ N1 ⟨rfl, K1⟩
    have K01 := K.trans K1
    obtain ⟨a', a1', a2', a3'⟩ := rs K01
    obtain ⟨b', b1', b2', b3', b4', b5'⟩ := rr K01
    refine ⟨_, rfl, fun h => (by cases h), fun _ => ⟨_, a1', _, a2', _, a3', _, b1', _, b2', _, b3', _, b4', _, b5', Cn.mono (Go.Zt.c5 (fb hf K01)) ?_⟩⟩
    rintro _ N2 ⟨rfl, K2⟩
    have K02 := K01.trans K2
    obtain ⟨a'', a1'', a2'', a3''⟩ := rs K02
    obtain ⟨b'', b1'', b2'', b3'', b4'', b5''⟩ := rr K02
    refine ⟨_, rfl, fun h => (by cases h), fun _ => ⟨_, a1'', _, a2'', _, a3'', _, b1'', _, b2'', _, b3'', _, b4'', _, b5'', Cn.mono (Go.Zt.c5 (fb hf K02)) ?_⟩⟩
    rintro _ N3 ⟨rfl, K3⟩
    refine ⟨_, rfl, w9_4 ⟨fun h => (by cases h), fun _ => ?_⟩⟩
    rw [i64w (by omega)]
    exact ih (k + 1) (by omega) (by omega) (K02.trans K3)
theorem c9_turns {M : Mem} (hf : M.floor ≤ M.nb.size) {S R : Option Addr} {cs cr : Nat} {x : Int} (hx : ¬ x < 6) : A9_1 S 6 cs R 6 cr x M Tr9 := by
  obtain ⟨G, M1, g1, g2, g3, g4⟩ := make_own Go.Zt.em22 (S := fun j => M.nb.size ≤ j) (M := M) (k := .i64) (k' := .i64) (l := 257) (c := 257) (by decide) (Int.le_refl _) (by decide) (Nat.le_refl _)
  have K1 : Keep M M1 := Keep.step (.refl _) g2 fun j hj => hj
  have g4 : Own (fun j => M.nb.size ≤ j) M1 3 G 257 (List.replicate 257 (.int .i64 0)) := g4
  obtain ⟨G2, s2, O2⟩ := slice_own Go.Zt.el22 (s := 1) (n := 257) (c := 257) (h := 256) (hi := some (.int .i64 256)) (by rw [Nat.mul_one]; exact g4) (Nat.le_refl _) (bound_lo (l := 256) rfl (by omega)) (by omega) rfl
  refine w9_1 ⟨fun h => absurd h hx, fun _ => ⟨_, g1, _, rfl, _, s2, _, rfl, ?_⟩⟩
  dsimp only
  have q4 : Row M1 G (List.replicate 257 (.int .i64 0)) := g4.row
  have q2 : Row M1 G2 (List.replicate 256 (.int .i64 0)) := by
    have := O2.row
    rw [Nat.mul_one, List.take_replicate] at this
    exact this
  obtain ⟨z1, hz1⟩ : ∃ z : List Int, z = List.replicate 257 0 := ⟨_, rfl⟩
  obtain ⟨z2, hz2⟩ : ∃ z : List Int, z = List.replicate 256 0 := ⟨_, rfl⟩
  have hl1 : z1.length = 257 := by rw [hz1, List.length_replicate]
  have hl2 : z2.length = 256 := by rw [hz2, List.length_replicate]
  have zs : ∀ k, Go.Zt.Ints (List.replicate k 0) = List.replicate k (.int .i64 0) := fun k => List.map_replicate
  have RG : Row M1 G (Go.Zt.Ints z1) := by rw [hz1, zs]; exact q4
  have RG2 : Row M1 G2 (Go.Zt.Ints z2) := by rw [hz2, zs]; exact q2
  clear hz1 hz2 q4 q2
  obtain ⟨P1, e1, E1, F1⟩ := frV M1 3 (Go.Zt.Ints [2, 0, 1, 1]) (cs := #[.int .i64 2, .int .i64 0, .int .i64 1, .int .i64 1]) rfl
  rw [e1]
  obtain ⟨P2, e2, E2, F2⟩ := frV P1 3 (Go.Zt.Ints [2, 1]) (cs := #[.int .i64 2, .int .i64 1]) rfl
  rw [e2]
  obtain ⟨P3, e3, E3, F3⟩ := frV P2 3 (Go.Zt.Ints [1, 1]) (cs := #[.int .i64 1, .int .i64 1]) rfl
  rw [e3]
  obtain ⟨P4, e4, E4, F4⟩ := frV P3 3 (Go.Zt.Ints [-1]) (cs := #[.int .i64 (-1)]) rfl
  rw [e4]
  obtain ⟨P5, e5, E5, F5⟩ := frV P4 3 (Go.Zt.Ints [65536]) (cs := #[.int .i64 65536]) rfl
  rw [e5]
  obtain ⟨P6, e6, E6, F6⟩ := frV P5 3 (Go.Zt.Ints [65536, 1]) (cs := #[.int .i64 65536, .int .i64 1]) rfl
  rw [e6]
  obtain ⟨P7, e7, E7, F7⟩ := frV P6 3 (Go.Zt.Ints [4611686018427387904, 4611686018427387904, 4611686018427387904]) (cs := #[.int .i64 4611686018427387904, .int .i64 4611686018427387904, .int .i64 4611686018427387904]) rfl
  rw [e7]
  obtain ⟨P8, e8, E8, F8⟩ := frV P7 22 ([(⟨[2, 0, 1, 1], some ⟨2 * M1.nb.size, 0, none⟩, 4⟩ : Il), ⟨[2, 1], some ⟨2 * P1.nb.size, 0, none⟩, 2⟩, ⟨[1, 1], some ⟨2 * P2.nb.size, 0, none⟩, 2⟩, ⟨[-1], some ⟨2 * P3.nb.size, 0, none⟩, 1⟩, ⟨z1, G, 257⟩, ⟨z2, G2, 257⟩, ⟨[65536], some ⟨2 * P4.nb.size, 0, none⟩, 1⟩, ⟨[65536, 1], some ⟨2 * P5.nb.size, 0, none⟩, 2⟩, ⟨[4611686018427387904, 4611686018427387904, 4611686018427387904], some ⟨2 * P6.nb.size, 0, none⟩, 3⟩, ⟨[], none, 0⟩].flatMap Il.cells)
    (cs := #[.slice (some ⟨2 * M1.nb.size, 0, none⟩) 4 4, .slice (some ⟨2 * P1.nb.size, 0, none⟩) 2 2, .slice (some ⟨2 * P2.nb.size, 0, none⟩) 2 2, .slice (some ⟨2 * P3.nb.size, 0, none⟩) 1 1, .slice G 257 257, .slice G2 256 257, .slice (some ⟨2 * P4.nb.size, 0, none⟩) 1 1, .slice (some ⟨2 * P5.nb.size, 0, none⟩) 2 2, .slice (some ⟨2 * P6.nb.size, 0, none⟩) 3 3, .slice none 0 0]) (by simp [hl1, hl2])
  have E18 : Keep P1 P8 := ((E2.trans E3).trans (E4.trans E5)).trans ((E6.trans E7).trans E8)
  have KM8 : Keep M1 P8 := E1.trans E18
  have hT : IlR P8 (some ⟨2 * P7.nb.size, 0, none⟩) [(⟨[2, 0, 1, 1], some ⟨2 * M1.nb.size, 0, none⟩, 4⟩ : Il), ⟨[2, 1], some ⟨2 * P1.nb.size, 0, none⟩, 2⟩, ⟨[1, 1], some ⟨2 * P2.nb.size, 0, none⟩, 2⟩, ⟨[-1], some ⟨2 * P3.nb.size, 0, none⟩, 1⟩, ⟨z1, G, 257⟩, ⟨z2, G2, 257⟩, ⟨[65536], some ⟨2 * P4.nb.size, 0, none⟩, 1⟩, ⟨[65536, 1], some ⟨2 * P5.nb.size, 0, none⟩, 2⟩, ⟨[4611686018427387904, 4611686018427387904, 4611686018427387904], some ⟨2 * P6.nb.size, 0, none⟩, 3⟩, ⟨[], none, 0⟩] := by
    refine ⟨F8, fun t ht => ?_⟩
    simp only [List.mem_cons, List.not_mem_nil, or_false] at ht
    rcases ht with rfl | rfl | rfl | rfl | rfl | rfl | rfl | rfl | rfl | rfl
    · exact F1.keep E18
    · exact F2.keep ((E3.trans (E4.trans E5)).trans ((E6.trans E7).trans E8))
    · exact F3.keep ((E4.trans E5).trans ((E6.trans E7).trans E8))
    · exact F4.keep (E5.trans ((E6.trans E7).trans E8))
    · exact RG.keep KM8
    · exact RG2.keep KM8
    · exact F5.keep ((E6.trans E7).trans E8)
    · exact F6.keep (E7.trans E8)
    · exact F7.keep E8
    · exact Row.nil
  have := c9_3 (fb hf (K1.trans KM8)) (ct := 10) hT (fun t ht => by
    simp only [List.mem_cons, List.not_mem_nil, or_false] at ht
    rcases ht with rfl | rfl | rfl | rfl | rfl | rfl | rfl | rfl | rfl | rfl
    all_goals dsimp only
    all_goals first | decide | (rw [hl1]; decide) | (rw [hl2]; decide)) (by simp) 10 0 (M := P8) rfl (.refl _)
  have e8' : P7.new (.cells #[.slice (some ⟨2 * M1.nb.size, 0, none⟩) 4 4, .slice (some ⟨2 * P1.nb.size, 0, none⟩) 2 2, .slice (some ⟨2 * P2.nb.size, 0, none⟩) 2 2, .slice (some ⟨2 * P3.nb.size, 0, none⟩) 1 1, .slice G (Int.toNat 257) (Int.toNat 257), .slice G2 256 257, .slice (some ⟨2 * P4.nb.size, 0, none⟩) 1 1, .slice (some ⟨2 * P5.nb.size, 0, none⟩) 2 2, .slice (some ⟨2 * P6.nb.size, 0, none⟩) 3 3, .slice none 0 0] 22) = P8 := e8
  rw [e8']
  exact this
theorem c9_1 {M0 : Mem} (hf : M0.floor ≤ M0.nb.size) {S R : Option Addr} {cs cr : Nat} (hS : Row M0 S (sq6.flatMap p2)) (hR : Row M0 R (Go.Zt.Rcs rc6)) : ∀ (m i : Nat) {M : Mem}, i + m = 6 → Keep M0 M → A9_1 S 6 cs R 6 cr (i : Nat) M Tr9 := by
  intro m
  induction m with
  | zero => intro i M hi K; exact c9_turns (fb hf K) (by omega)
  | succ m ih =>
    intro i M hi K
    refine w9_1 ⟨fun _ => ?_, fun h => by omega⟩
    exact c9_2 (M0 := M) (fb hf K) (hS.keep K) (hR.keep K) (by omega) (fun N KN => ih (i + 1) (by omega) (K.trans KN)) 5 (-1) (by decide) (by decide) (.refl _)
theorem law9 {W : World} : Cn Try.prog 9 #[] (mem0 W) fun v _ => v = .bool true := by
  refine w9_0 ?_
  obtain ⟨P1, e1, E1, F1⟩ := frV (mem0 W) 32 (sq6.flatMap p2) (cs := #[.int .i64 130, .int .i64 70, .int .i64 16, .int .i64 16, .int .i64 256, .int .i64 256, .int .i64 15, .int .i64 16, .int .i64 258, .int .i64 16, .int .i64 0, .int .i64 0]) rfl
  rw [e1]
  obtain ⟨P2, e2, E2, F2⟩ := frV P1 35 (Go.Zt.Rcs rc6) (cs := #[.int .i64 64, .int .i64 0, .int .i64 72, .int .i64 72, .int .i64 0, .int .i64 0, .int .i64 0, .int .i64 0, .int .i64 0, .int .i64 0, .int .i64 256, .int .i64 256, .int .i64 0, .int .i64 0, .int .i64 257, .int .i64 1, .int .i64 (-1), .int .i64 0, .int .i64 1, .int .i64 1, .int .i64 256, .int .i64 256, .int .i64 1, .int .i64 1]) rfl
  rw [e2]
  exact c9_1 (fb (Nat.zero_le _) (E1.trans E2)) (F1.keep E2) F2 6 0 (by decide) (.refl _)
end Go.Zu
