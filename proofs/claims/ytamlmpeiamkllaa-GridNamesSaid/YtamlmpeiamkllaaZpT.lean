/- Layer 17: Vecs. -/
import Derived.Test.YtamlmpeiamkllaaZpS
set_option linter.unusedSimpArgs false
set_option linter.unusedVariables false
set_option maxRecDepth 100000
namespace Go.Zt
open Go Go.Sim Go.Proofs Go.RowKit

theorem cO2 {b c : Bool} {X : Prop} (F : Bool → Prop) (h : F (b || c)) (k : F c → X) : cnd b (F true) X := by
  cases b
  · exact k h
  · exact h
def zero4 : Array Value := #[.int .i64 0, .int .i64 0, .int .i64 0, .int .i64 0]
def vecsV (L : List Bk) (t : Tl) (x y w r : Int) : Value := if vecsOk t x y w r then .tuple #[.agg (outC (vecsS L x y w r)), .int .i64 ((vecsS L x y w r).length : Nat), .int .i64 0] else .tuple #[.agg (outC []), .int .i64 0, .int .i64 2]
theorem outC_size (out : List (Int × Int)) : (outC out).size = 4 := by
  match out with
  | [] => rfl
  | [_] => rfl
  | _ :: _ :: _ => rfl
/-- A vector is put behind those that there are. -/
theorem outC_set {out : List (Int × Int)} {v : Int × Int} (h : out.length < 2) : ((outC out).setIfInBounds (2 * out.length) (.int .i64 v.1)).setIfInBounds (2 * out.length + 1) (.int .i64 v.2) = outC (out ++ [v]) := by
  match out, h with
  | [], _ => rfl
  | [_], _ => rfl
theorem on4 {M : Mem} {j : Nat} {out : List (Int × Int)} {t : TypeId} (a : M.nb[j]? = some (.cells (outC out) t)) {P : Int → Int → Int → Int → Prop} (k : ∀ p q r s : Int, #[.int .i64 p, .int .i64 q, .int .i64 r, .int .i64 s] = outC out → P p q r s) :
    onS (M.intAt .i64 (2 * j) 0) fun p => onS (M.intAt .i64 (2 * j) (0 + 1)) fun q => onS (M.intAt .i64 (2 * j) (0 + 2)) fun r => onS (M.intAt .i64 (2 * j) (0 + 3)) fun s => P p q r s := by
  match out, a with
  | [], a => exact on (int_of (i := 0) a rfl) (on (int_of (i := 0 + 1) a rfl) (on (int_of (i := 0 + 2) a rfl) (on (int_of (i := 0 + 3) a rfl) (k _ _ _ _ rfl))))
  | [_], a => exact on (int_of (i := 0) a rfl) (on (int_of (i := 0 + 1) a rfl) (on (int_of (i := 0 + 2) a rfl) (on (int_of (i := 0 + 3) a rfl) (k _ _ _ _ rfl))))
  | _ :: _ :: _, a => exact on (int_of (i := 0) a rfl) (on (int_of (i := 0 + 1) a rfl) (on (int_of (i := 0 + 2) a rfl) (on (int_of (i := 0 + 3) a rfl) (k _ _ _ _ rfl))))
section
variable {V : Nat → Prop} {M M0 : Mem} {j jm jr jo : Nat} {t : Tl} {L : List Bk} {r p0 p1 p2 p3 p4 p5 p6 p7 : Int} {Q : Value → Mem → Prop}
set_option maxHeartbeats 1000000 in
theorem e10_8 {i : Nat} {px py : Int} {out : List (Int × Int)} (hi : i < 4) (hs : strV Try.prog 74 (.agg #[.int .i64 p0, .int .i64 p1, .int .i64 p2, .int .i64 p3, .int .i64 p4, .int .i64 p5, .int .i64 p6, .int .i64 p7]) (.int .i64 (i : Int)) = some (.agg #[.int .i64 px, .int .i64 py]))
    (hf : M.floor ≤ M.nb.size) (G : Gr V M j jm t L) (rx : i64R px) (ry : i64R py) (ho : out.length ≤ 2) (a : M.nb[jo]? = some (.cells (outC out) 25)) (fo : M.floor ≤ jo)
    (next : ∀ N, Chg (· = jo) M N → N.nb[jo]? = some (.cells (outC (vstep r out (atS px py L))) 25) → A10_8 (some ⟨2 * j, 0, none⟩) r (some ⟨2 * jr, 0, none⟩) (some ⟨2 * jo, 0, none⟩) ((vstep r out (atS px py L)).length : Nat) p0 p1 p2 p3 p4 p5 p6 p7 ((i + 1 : Nat) : Int) N Q) :
    A10_8 (some ⟨2 * j, 0, none⟩) r (some ⟨2 * jr, 0, none⟩) (some ⟨2 * jo, 0, none⟩) (out.length : Nat) p0 p1 p2 p3 p4 p5 p6 p7 (i : Int) M Q := by
  have lo := lt_of_at a
  refine w10_8 (cT (decide_eq_true (by omega)) (pu hs (ty rfl (ty rfl (ty rfl (stN (cs := #[.int .i64 px, .int .i64 py]) hf rfl rfl rfl fun M1 K1 z1 b1 => ?_))))))
  refine ix (x := ⟨2 * M.nb.size, 0, none⟩) (by kernel_rfl) (on (int_of (i := 0) b1 rfl) (ix (x := ⟨2 * M.nb.size, 1, none⟩) (by kernel_rfl) (on (int_of (i := 1) b1 rfl) (Cn.mono (c14 (fb hf K1) (G.keep K1) rx ry) ?_))))
  rintro _ N1 ⟨rfl, K2⟩
  have T2 := K1.trans K2
  have step : ∀ (b : Bk) (f : Bool), (atS px py L).getD zB = b → atV (atS px py L) = .tuple #[.agg b.cs, .bool f] → tyS (asU 2 (atV (atS px py L))) fun cs66' =>
      tyS (asA 23 (cs66'.getD 0 undef)) fun cs67' =>
      asCellsP tyZpE0 0 cs67' fun vs68' =>
      tyS (asB (cs66'.getD 1 undef)) fun b69' =>
      tyS (asA 23 (.agg vs68'.toArray)) fun cs70' =>
      asCellsP tyZpE0 0 cs70' fun vs71' => vs71' = b.cs.toList := by
    intro b f _ h2
    rw [h2]
    exact ty rfl (ty rfl (ac0 rfl (ty rfl (ty rfl (ac0 rfl rfl)))))
  obtain ⟨b, f, hb, hv⟩ : ∃ b f, (atS px py L).getD zB = b ∧ atV (atS px py L) = .tuple #[.agg b.cs, .bool f] := by
    cases atS px py L with
    | none => exact ⟨zB, false, rfl, rfl⟩
    | some b => exact ⟨b, true, rfl, rfl⟩
  rw [hv]
  refine ty rfl (ty rfl (ac0 rfl (ty rfl (ty rfl (ac0 rfl (stN (cs := b.cs) (fb hf T2) rfl rfl rfl fun M3 K3 z3 b3 => ldA b3 rfl ?_))))))
  have T3 := T2.trans K3
  refine Cn.mono (c28 (b := b) (fb hf T3)) ?_
  rintro _ N4 ⟨rfl, K4⟩
  have T4 := T3.trans K4
  have vst : vstep r out (atS px py L) = match vecB b r with | some v => if out.length < 2 ∧ v ∉ out then out ++ [v] else out | none => out := by unfold vstep; rw [hb]; rfl
  have stay : vstep r out (atS px py L) = out → ∀ {N : Mem} {ju : Nat}, Keep M N → A10_9 (some ⟨2 * j, 0, none⟩) r (some ⟨2 * jr, 0, none⟩) (some ⟨2 * jo, 0, none⟩) (out.length : Nat) (some ⟨2 * ju, 0, none⟩) p0 p1 p2 p3 p4 p5 p6 p7 (i : Int) false N Q := by
    intro h N ju K
    refine w10_9 (cF rfl (w10_10 ?_))
    rw [i64w (by omega)]
    have := next N (K.mono fun _ _ h => h.elim) (by rw [h]; exact at_keep a K)
    rw [h] at this
    exact this
  cases hvb : vecB b r with
  | none =>
    refine ty rfl (ty rfl (ty rfl (ty rfl (ty rfl (stN (cs := #[.int .i64 0, .int .i64 0]) (fb hf T4) rfl rfl rfl fun M5 K5 z5 b5 => cF rfl (stay (by rw [vst, hvb]) (T4.trans K5)))))))
  | some v =>
    refine ty rfl (ty rfl (ty rfl (ty rfl (ty rfl (stN (cs := #[.int .i64 v.1, .int .i64 v.2]) (fb hf T4) rfl rfl rfl fun M5 K5 z5 b5 => cT rfl ?_)))))
    have T5 := T4.trans K5
    have a5 := at_keep a T5
    by_cases h2 : out.length < 2
    · refine cT (decide_eq_true (by omega)) (pu (slArr ho) (ty rfl (on (int_of (i := 0) b5 rfl) (on (int_of (i := 0 + 1) b5 rfl) (Cn.mono (c29 (n := out.length) (c := 2) (fb hf T5) (out_row a5 ho) rfl (by omega)) ?_)))))
      rintro _ N6 ⟨rfl, K6⟩
      have T6 := T5.trans K6
      refine ty rfl ?_
      by_cases hm : (v.1, v.2) ∈ out
      · rw [decide_eq_true hm]
        exact stay (by rw [vst, hvb]; show (if out.length < 2 ∧ v ∉ out then _ else _) = _; rw [if_neg (fun q => q.2 hm)]) T6
      · rw [decide_eq_false hm]
        have hvs : vstep r out (atS px py L) = out ++ [v] := by rw [vst, hvb]; show (if out.length < 2 ∧ v ∉ out then _ else _) = _; rw [if_pos ⟨h2, hm⟩]
        have b6 := at_keep b5 K6
        have a6 := at_keep a5 K6
        have f6 : N6.floor ≤ jo := by rw [T6.floor]; exact fo
        obtain ⟨M7, p7, C7, z7, a7⟩ := put1 (2 * out.length) (.int .i64 v.1) a6 f6 (by rw [outC_size]; omega) rfl
        obtain ⟨M8, p8, C8, z8, a8⟩ := put1 (2 * out.length + 1) (.int .i64 v.2) a7 (by rw [C7.floor]; exact f6) (by rw [Array.size_setIfInBounds, outC_size]; omega) rfl
        rw [outC_set h2] at a8
        have hix : idxA (some ⟨2 * jo, 0, none⟩) 2 2 ((out.length : Nat) : Int) = some ⟨2 * jo, 2 * out.length, none⟩ := by
          unfold idxA
          rw [if_pos (by omega)]
          simp
          try omega
        refine w10_9 (cT rfl (ad rfl (on (int_of (i := 0) b6 rfl) (on (int_of (i := 0 + 1) b6 rfl) (ix hix ⟨rfl, pt p7 (pt p8 (w10_10 ?_))⟩)))))
        rw [i64w (x := ((out.length : Nat) : Int) + 1) (by omega), i64w (by omega)]
        have := next M8 (((T6.mono fun _ _ h => h.elim).trans C7).trans C8) (by rw [hvs]; exact a8)
        rw [hvs] at this
        simpa using this
    · exact cF (decide_eq_false (by omega)) (stay (by rw [vst, hvb]; show (if out.length < 2 ∧ v ∉ out then _ else _) = _; rw [if_neg (fun q => h2 q.1)]) T5)
set_option maxHeartbeats 2000000 in
theorem c10 {x y w h : Int} (hf : M.floor ≤ M.nb.size) (G : Gr V M j jm t L) (hr : i64R x ∧ i64R y ∧ i64R w ∧ i64R r) : Cn Try.prog 10 #[PtrB j, .agg #[.int .i64 x, .int .i64 y, .int .i64 w, .int .i64 h], .int .i64 r] M fun v N => v = vecsV L t x y w r ∧ Keep M N := by
  have a := Mem.new_at M (.cells #[.int .i64 x, .int .i64 y, .int .i64 w, .int .i64 h] 35)
  have K1 : Keep M (M.new (.cells #[.int .i64 x, .int .i64 y, .int .i64 w, .int .i64 h] 35)) := .new _ _
  have z1 := Mem.new_size M (.cells #[.int .i64 x, .int .i64 y, .int .i64 w, .int .i64 h] 35)
  refine w10_0 ?_
  generalize M.new (.cells #[.int .i64 x, .int .i64 y, .int .i64 w, .int .i64 h] 35) = M1 at a K1 z1 ⊢
  have ar := Mem.new_at M1 (.cells #[.int .i64 0, .int .i64 0, .int .i64 0, .int .i64 0] 25)
  have K2 : Keep M1 (M1.new (.cells #[.int .i64 0, .int .i64 0, .int .i64 0, .int .i64 0] 25)) := .new _ _
  have z2 := Mem.new_size M1 (.cells #[.int .i64 0, .int .i64 0, .int .i64 0, .int .i64 0] 25)
  generalize M1.new (.cells #[.int .i64 0, .int .i64 0, .int .i64 0, .int .i64 0] 25) = M2 at ar K2 z2 ⊢
  have ao := Mem.new_at M2 (.cells #[.int .i64 0, .int .i64 0, .int .i64 0, .int .i64 0] 25)
  have K3 : Keep M2 (M2.new (.cells #[.int .i64 0, .int .i64 0, .int .i64 0, .int .i64 0] 25)) := .new _ _
  have z3 := Mem.new_size M2 (.cells #[.int .i64 0, .int .i64 0, .int .i64 0, .int .i64 0] 25)
  generalize M2.new (.cells #[.int .i64 0, .int .i64 0, .int .i64 0, .int .i64 0] 25) = M3 at ao K3 z3 ⊢
  have a3 := at_keep (at_keep a K2) K3
  have ar3 := at_keep ar K3
  have T3 := (K1.trans K2).trans K3
  have G3 := G.keep T3
  obtain ⟨A, c, es, k, g1, _⟩ := G3.ex
  have f3 := fb hf T3
  have hm := G.may
  unfold Tl.may spanB at hm
  simp only [Bool.and_eq_true, decide_eq_true_eq] at hm
  have flr : M3.floor ≤ M.nb.size := by rw [T3.floor]; exact hf
  -- the end: what is told is copied
  have endQ : ∀ {N : Mem} {out : List (Int × Int)} {e : Int}, Chg (fun i => i = M2.nb.size) M3 N → N.nb[M2.nb.size]? = some (.cells (outC out) 25) → ∀ {P : Int → Int → Int → Int → Mem → Prop}, (∀ p q u s N', #[.int .i64 p, .int .i64 q, .int .i64 u, .int .i64 s] = outC out → Keep M N' → P p q u s N') →
      onS (N.intAt .i64 (2 * M2.nb.size) 0) fun p => onS (N.intAt .i64 (2 * M2.nb.size) (0 + 1)) fun q => onS (N.intAt .i64 (2 * M2.nb.size) (0 + 2)) fun u => onS (N.intAt .i64 (2 * M2.nb.size) (0 + 3)) fun s =>
        adS (some (⟨2 * M1.nb.size, 0, none⟩ : Addr)) fun a' => stP (some 4) #[.int .i64 p, .int .i64 q, .int .i64 u, .int .i64 s] N a'.block a'.off fun N' => adS (some (⟨2 * M1.nb.size, 0, none⟩ : Addr)) fun a2 =>
          onS (N'.intAt .i64 a2.block a2.off) fun p => onS (N'.intAt .i64 a2.block (a2.off + 1)) fun q => onS (N'.intAt .i64 a2.block (a2.off + 2)) fun u => onS (N'.intAt .i64 a2.block (a2.off + 3)) fun s => P p q u s N' := by
    intro N out e C u P hP
    refine on4 u fun p q u' s hc => ad rfl (stA (cs := #[.int .i64 p, .int .i64 q, .int .i64 u', .int .i64 s]) (at_chg ar3 C (by omega)) (by rw [C.floor]; omega) rfl rfl rfl fun N' C' z' b' => ad rfl ?_)
    rw [hc] at b'
    refine on4 b' fun p q u' s hc' => hP _ _ _ _ _ hc' ?_
    exact Keep.step (Keep.step T3 C fun i hi => by omega) C' fun i hi => by omega
  have bad : vecsOk t x y w r = false → A10_7 (some ⟨2 * j, 0, none⟩) r (some ⟨2 * M.nb.size, 0, none⟩) (some ⟨2 * M1.nb.size, 0, none⟩) (some ⟨2 * M2.nb.size, 0, none⟩) true M3 fun v N => v = vecsV L t x y w r ∧ Keep M N := fun h =>
    w10_7 (cT rfl (ad rfl (endQ (out := []) (e := 0) (.refl _) ao fun p q u s N' hc K => ⟨by unfold vecsV; rw [h, ← hc]; rfl, K⟩)))
  have key : ∀ b : Bool, b = !vecsOk t x y w r → A10_7 (some ⟨2 * j, 0, none⟩) r (some ⟨2 * M.nb.size, 0, none⟩) (some ⟨2 * M1.nb.size, 0, none⟩) (some ⟨2 * M2.nb.size, 0, none⟩) b M3 fun v N => v = vecsV L t x y w r ∧ Keep M N := by
    intro b hb
    cases hok : vecsOk t x y w r with
    | false => rw [hok] at hb; rw [hb]; exact bad hok
    | true =>
      rw [hok] at hb
      rw [hb]
      unfold vecsOk at hok
      simp only [Bool.and_eq_true, decide_eq_true_eq] at hok
      have hin := of_decide_eq_true hok.1.2
      refine w10_7 (cF rfl (ad rfl (on (int_of (i := 0) a3 rfl) (ad rfl (on (int_of (i := 0 + 1) a3 rfl) (ad rfl (on (int_of (i := 0) a3 rfl) (ad rfl (on (int_of (i := 0 + 1) a3 rfl) (ad rfl (on (int_of (i := 0) a3 rfl) (ad rfl (on (int_of (i := 0 + 2) a3 rfl) (ad rfl (on (int_of (i := 0 + 1) a3 rfl) (ad rfl (on (int_of (i := 0) a3 rfl) (ad rfl (on (int_of (i := 0 + 1) a3 rfl) ?_)))))))))))))))))))
      rw [i64w (x := x - 1) (by omega), i64w (x := y - 1) (by omega), i64w (x := x + w) (by omega)]
      have R : ∀ z : Int, -1 ≤ z ∧ z ≤ 1000 → i64R z := fun z hz => by unfold i64R; omega
      have fo : M3.floor ≤ M2.nb.size := by omega
      have tr : ∀ {N N' : Mem}, Chg (· = M2.nb.size) M3 N → Chg (· = M2.nb.size) N N' → Chg (· = M2.nb.size) M3 N' := fun h k => h.trans k
      have gr : ∀ {N : Mem}, Chg (· = M2.nb.size) M3 N → Gr V N j jm t L ∧ N.floor ≤ N.nb.size ∧ N.floor ≤ M2.nb.size := fun {N} C => by
        exact ⟨(G.keep (K1.trans K2)).keep (Keep.step K3 C fun i hi => by omega), by rw [C.floor]; have := C.size; omega, by rw [C.floor]; omega⟩
      refine e10_8 (i := 0) (out := []) (by decide) rfl f3 G3 (R _ (by omega)) (R _ (by omega)) (by decide) ao fo fun N1 C1 a1 => ?_
      obtain ⟨G4, f4, fo4⟩ := gr C1
      refine e10_8 (i := 1) (by decide) rfl f4 G4 (R _ (by omega)) (R _ (by omega)) (vstep_len (by decide)) a1 fo4 fun N2 C2 a2 => ?_
      have C2 := tr C1 C2
      obtain ⟨G5, f5, fo5⟩ := gr C2
      refine e10_8 (i := 2) (by decide) rfl f5 G5 (R _ (by omega)) (R _ (by omega)) (vstep_len (vstep_len (by decide))) a2 fo5 fun N3 C3 a3 => ?_
      have C3 := tr C2 C3
      obtain ⟨G6, f6, fo6⟩ := gr C3
      refine e10_8 (i := 3) (by decide) rfl f6 G6 (R _ (by omega)) (R _ (by omega)) (vstep_len (vstep_len (vstep_len (by decide)))) a3 fo6 fun N4 C4 a4 => ?_
      have C4 := tr C3 C4
      refine w10_8 (cF rfl (ad rfl (endQ (e := 0) C4 a4 fun p q u s N' hc K => ⟨?_, K⟩)))
      unfold vecsV vecsOk
      rw [decide_eq_true hok.1.1, hok.1.2, decide_eq_true hok.2]
      show Value.tuple #[.agg #[.int .i64 p, .int .i64 q, .int .i64 u, .int .i64 s], _, _] = Value.tuple #[.agg (outC (vecsS L x y w r)), _, _]
      rw [hc]
      rfl
  have t8 : ∀ z : Int, z.tmod 8 = 0 ↔ z % 8 = 0 := fun z => tmod_eq (a := z) 8 (by decide)
  have e : ((((((((x.tmod 8 != 0) || (y.tmod 8 != 0)) || !t.in x y) || decide (w < 8)) || decide (w > 64)) || (w.tmod 8 != 0)) || decide (r < 0)) || decide (r > 2)) = !vecsOk t x y w r := by
    have h : vecsOk t x y w r = true ↔ ((x % 8 = 0 ∧ y % 8 = 0) ∧ t.in x y = true) ∧ (8 ≤ w ∧ w ≤ 64 ∧ w % 8 = 0 ∧ 0 ≤ r ∧ r ≤ 2) := by
      unfold vecsOk
      simp only [Bool.and_eq_true, decide_eq_true_eq]
    have t1 := t8 x
    have t2 := t8 y
    have t3 := t8 w
    rw [Bool.eq_iff_iff]
    simp only [Bool.or_eq_true, bne_iff_ne, decide_eq_true_eq, Bool.not_eq_true', ← Bool.not_eq_true, h]
    constructor
    · rintro (((((((q | q) | q) | q) | q) | q) | q) | q) <;> intro g <;> first | exact q g.1.2 | omega
    · intro g
      by_cases hin : t.in x y = true
      · by_cases h1 : x.tmod 8 = 0
        · by_cases h2 : y.tmod 8 = 0
          · by_cases h3 : w.tmod 8 = 0
            · have : ¬ (8 ≤ w ∧ w ≤ 64 ∧ w % 8 = 0 ∧ 0 ≤ r ∧ r ≤ 2) := fun q => g ⟨⟨⟨t1.1 h1, t2.1 h2⟩, hin⟩, q⟩
              have h3' := t3.1 h3
              by_cases c1 : w < 8
              · exact .inl (.inl (.inl (.inl (.inr c1))))
              · by_cases c2 : w > 64
                · exact .inl (.inl (.inl (.inr c2)))
                · by_cases c3 : r < 0
                  · exact .inl (.inr c3)
                  · exact .inr (by omega)
            · exact .inl (.inl (.inr h3))
          · exact .inl (.inl (.inl (.inl (.inl (.inl (.inr h2))))))
        · exact .inl (.inl (.inl (.inl (.inl (.inl (.inl h1))))))
      · exact .inl (.inl (.inl (.inl (.inl (.inr hin)))))
  have k7 := key _ e
  refine Cn.eq (c24 g1) (ty rfl (cF rfl (on (int_of (i := 0) a3 rfl) ?_)))
  refine cO2 (c := (y.tmod 8) != 0) (fun z => A10_1 (some ⟨2 * j, 0, none⟩) r (some ⟨2 * M.nb.size, 0, none⟩) (some ⟨2 * M1.nb.size, 0, none⟩) (some ⟨2 * M2.nb.size, 0, none⟩) z M3 fun v N => v = vecsV L t x y w r ∧ Keep M N) (w10_1 ?_) ?k1
  case k1 => exact fun h => on (int_of (i := 0 + 1) a3 rfl) h
  refine cO2 (c := !t.in x y) (fun z => A10_2 (some ⟨2 * j, 0, none⟩) r (some ⟨2 * M.nb.size, 0, none⟩) (some ⟨2 * M1.nb.size, 0, none⟩) (some ⟨2 * M2.nb.size, 0, none⟩) z M3 fun v N => v = vecsV L t x y w r ∧ Keep M N) (w10_2 ?_) ?k2
  case k2 => exact fun h => ad rfl (on (int_of (i := 0) a3 rfl) (ad rfl (on (int_of (i := 0 + 1) a3 rfl) (Cn.eq (c26 g1 G.may hr.1 hr.2.1) (ty rfl h)))))
  refine cO2 (c := decide (w < 8)) (fun z => A10_3 (some ⟨2 * j, 0, none⟩) r (some ⟨2 * M.nb.size, 0, none⟩) (some ⟨2 * M1.nb.size, 0, none⟩) (some ⟨2 * M2.nb.size, 0, none⟩) z M3 fun v N => v = vecsV L t x y w r ∧ Keep M N) (w10_3 ?_) ?k3
  case k3 => exact fun h => ad rfl (on (int_of (i := 0 + 2) a3 rfl) h)
  refine cO2 (c := decide (w > 64)) (fun z => A10_4 (some ⟨2 * j, 0, none⟩) r (some ⟨2 * M.nb.size, 0, none⟩) (some ⟨2 * M1.nb.size, 0, none⟩) (some ⟨2 * M2.nb.size, 0, none⟩) z M3 fun v N => v = vecsV L t x y w r ∧ Keep M N) (w10_4 ?_) ?k4
  case k4 => exact fun h => ad rfl (on (int_of (i := 0 + 2) a3 rfl) h)
  refine cO2 (c := (w.tmod 8) != 0) (fun z => A10_5 (some ⟨2 * j, 0, none⟩) r (some ⟨2 * M.nb.size, 0, none⟩) (some ⟨2 * M1.nb.size, 0, none⟩) (some ⟨2 * M2.nb.size, 0, none⟩) z M3 fun v N => v = vecsV L t x y w r ∧ Keep M N) (w10_5 ?_) ?k5
  case k5 => exact fun h => ad rfl (on (int_of (i := 0 + 2) a3 rfl) h)
  refine cO (fun z => A10_6 (some ⟨2 * j, 0, none⟩) r (some ⟨2 * M.nb.size, 0, none⟩) (some ⟨2 * M1.nb.size, 0, none⟩) (some ⟨2 * M2.nb.size, 0, none⟩) z M3 fun v N => v = vecsV L t x y w r ∧ Keep M N) (w10_6 ?_)
  exact cO (fun z => A10_7 (some ⟨2 * j, 0, none⟩) r (some ⟨2 * M.nb.size, 0, none⟩) (some ⟨2 * M1.nb.size, 0, none⟩) (some ⟨2 * M2.nb.size, 0, none⟩) z M3 fun v N => v = vecsV L t x y w r ∧ Keep M N) k7
end
end Go.Zt
