/- Layer 17: Vecs of the document. Printed by genJ.py. -/
import Derived.Test.YtamlmpeiamkllaaZoF
import Derived.Test.YtamlmpeiamkllaaZpI
import Derived.Test.YtamlmpeiamkllaaZpT
set_option linter.unusedSimpArgs false
set_option linter.unusedVariables false
set_option maxRecDepth 100000
namespace Go.Zt
open Go Go.Sim Go.Proofs Go.RowKit

theorem keepRes (M : Mem) (k : Nat) : Keep M (M.res k) := ⟨(res_same M k).1, (res_same M k).2, by rw [res_size]; omega, fun j hj _ => by rw [res_at, if_pos hj]⟩
theorem nv24 (a b c d : Int) : binV Try.prog .neq 24 24 (.agg #[.int .i64 a, .int .i64 b]) (.agg #[.int .i64 c, .int .i64 d]) = some (.bool !(decide ((a, b) = (c, d)))) := by
  obtain ⟨z, h1, h2, h3⟩ := binV_eqA (P := Try.prog) (k := 3) (t := 24) (tb := 24) (xs := [.int .i64 a, .int .i64 b]) (ys := [.int .i64 c, .int .i64 d]) (by decide) (by kernel_rfl) (by kernel_rfl) (by kernel_rfl) (by kernel_rfl) (by kernel_rfl) rfl rfl
  have : z = decide ((a, b) = (c, d)) := by
    rw [Bool.eq_iff_iff, h3, decide_eq_true_eq]
    simp
  rw [h2, this]
section
variable {V : Nat → Prop} {M : Mem} {j jm jr jo jx jy : Nat} {t : Tl} {L : List Bk} {x y r : Int} {Q : Value → Mem → Prop}
abbrev PJ (j : Nat) : Option Addr := some ⟨2 * j, 0, none⟩
set_option maxHeartbeats 2000000 in
theorem e40_8 {i : Nat} {px py : Int} {out : List (Int × Int)} {X Y : Array Value} (hi : i < 4) (hx : ∀ n, idxA (PJ n) 4 1 (i : Int) = some ⟨2 * n, i, none⟩) (cx : X[i]? = some (.int .i64 px)) (cy : Y[i]? = some (.int .i64 py))
    (hf : M.floor ≤ M.nb.size) (G : Rf V M j t L) (ho : out.length ≤ 2) (ax : M.nb[jx]? = some (.cells X 3)) (ay : M.nb[jy]? = some (.cells Y 3)) (a : M.nb[jo]? = some (.cells (outC out) 25)) (fo : M.floor ≤ jo)
    (next : ∀ N, Chg (· = jo) M N → N.nb[jo]? = some (.cells (outC (vstep r out (atS px py L))) 25) → A40_8 (PJ j) r (PJ jr) (PJ jo) (PJ jx) 4 4 (PJ jy) 4 4 ((vstep r out (atS px py L)).length : Nat) ((i + 1 : Nat) : Int) N Q) :
    A40_8 (PJ j) r (PJ jr) (PJ jo) (PJ jx) 4 4 (PJ jy) 4 4 (out.length : Nat) (i : Int) M Q := by
  have lo := lt_of_at a
  have KR := keepRes M 1
  have zR := res_size M 1
  refine w40_8 (cT (decide_eq_true (by omega)) ?_)
  generalize M.res 1 = R at KR zR ⊢
  refine ix (hx jx) (on (int_of (i := i) (at_keep ax KR) cx) (ix (hx jy) (on (int_of (i := i) (at_keep ay KR) cy) (Cn.mono (c36 (fb hf KR) (G.keep KR)) ?_))))
  rintro _ N ⟨rfl, KN⟩
  have zN := KN.size
  have hlt : M.nb.size + 0 < N.nb.size := by omega
  have u1 := upd_at (M := N) (b := .cells zB.cs 27) hlt
  have C1 := upd_chg (M := N) (S := (· = M.nb.size + 0)) (b := .cells zB.cs 27) (j := M.nb.size + 0) rfl
  have y1 := upd_size (M := N) (j := M.nb.size + 0) (.cells zB.cs 27)
  have stay : vstep r out (atS px py L) = out → ∀ {N : Mem}, Keep M N → A40_10 (PJ j) r (PJ jr) (PJ jo) (PJ jx) 4 4 (PJ jy) 4 4 (out.length : Nat) (i : Int) N Q := by
    intro h N K
    refine w40_10 ?_
    rw [i64w (x := (i : Int) + 1) (by omega)]
    have := next N (K.mono fun _ _ h => h.elim) (by rw [h]; exact at_keep a K)
    rw [h] at this
    exact this
  have k12 : ∀ (ju : Nat) (u : Int × Int) (z : Bool) (N : Mem), Keep M N → N.nb[ju]? = some (.cells #[.int .i64 u.1, .int .i64 u.2] 24) → vstep r out (atS px py L) = (if z then out ++ [u] else out) → (z = true → out.length < 2) → A40_12 (PJ j) r (PJ jr) (PJ jo) (PJ jx) 4 4 (PJ jy) 4 4 (out.length : Nat) (i : Int) (PJ ju) z N Q := by
    intro ju u z N K au hv hz
    cases z with
    | false => exact w40_12 (cF rfl (stay hv K))
    | true =>
      have h2 := hz rfl
      have f6 : N.floor ≤ jo := by rw [K.floor]; exact fo
      obtain ⟨M7, p7, C7, z7, a7⟩ := put1 (2 * out.length) (.int .i64 u.1) (at_keep a K) f6 (by rw [outC_size]; omega) rfl
      obtain ⟨M8, p8, C8, z8, a8⟩ := put1 (2 * out.length + 1) (.int .i64 u.2) a7 (by rw [C7.floor]; exact f6) (by rw [Array.size_setIfInBounds, outC_size]; omega) rfl
      rw [outC_set h2] at a8
      have hix : idxA (PJ jo) 2 2 ((out.length : Nat) : Int) = some ⟨2 * jo, 2 * out.length, none⟩ := by
        unfold idxA
        rw [if_pos (by omega)]
        simp
        try omega
      have hn := next M8 (((K.mono fun _ _ h => h.elim).trans C7).trans C8) (by rw [hv]; exact a8)
      rw [hv] at hn
      refine w40_12 (cT rfl (ad rfl (on (int_of (i := 0) au rfl) (on (int_of (i := 0 + 1) au rfl) (ix hix ⟨rfl, pt p7 (pt p8 (w40_10 ?_))⟩)))))
      rw [i64w (x := ((out.length : Nat) : Int) + 1) (by omega), i64w (x := (i : Int) + 1) (by omega)]
      simpa using hn
  cases hat : atS px py L with
  | none =>
    refine ty rfl (ty rfl (ac0 rfl (ty rfl (ty rfl (ac0 rfl ?_)))))
    show stP (some 23) zB.cs (N.upd (M.nb.size + 0) (.cells zB.cs 27)) (2 * (M.nb.size + 0)) 0 _
    generalize N.upd (M.nb.size + 0) (.cells zB.cs 27) = T at u1 C1 y1 ⊢
    refine stA (cs := zB.cs) u1 (by rw [C1.floor, KN.floor, KR.floor]; omega) rfl rfl rfl fun M6 C6 z6 b6 => ?_
    have T6 : Keep M M6 := Keep.step (KR.trans KN) (C1.trans C6) fun i hi => by omega
    exact cT rfl (w40_9 (cT rfl (stay (by rw [hat]; rfl) T6)))
  | some b =>
    refine ty rfl (ty rfl (ac0 rfl (ty rfl (ty rfl (ac0 rfl ?_)))))
    show stP (some 23) b.cs (N.upd (M.nb.size + 0) (.cells zB.cs 27)) (2 * (M.nb.size + 0)) 0 _
    generalize N.upd (M.nb.size + 0) (.cells zB.cs 27) = T at u1 C1 y1 ⊢
    refine stA (cs := b.cs) u1 (by rw [C1.floor, KN.floor, KR.floor]; omega) rfl rfl rfl fun M6 C6 z6 b6 => ?_
    have T6 : Keep M M6 := Keep.step (KR.trans KN) (C1.trans C6) fun i hi => by omega
    have f6 := fb hf T6
    have vst : vstep r out (atS px py L) = match vecB b r with | some v => if out.length < 2 ∧ v ∉ out then out ++ [v] else out | none => out := by rw [hat]; rfl
    have hvb : vecB b r = if b.it = false then none else if b.r0 = r then some (b.v0, b.v1) else if b.cp = true ∧ b.r1 = r then some (b.v2, b.v3) else none := rfl
    refine cF rfl (on (bool_of (i := 0 + 5) b6 rfl) ?_)
    cases hit : b.it with
    | false => exact w40_9 (cT rfl (stay (by rw [vst, hvb, if_pos hit]) T6))
    | true =>
      refine w40_9 (cF rfl (ad rfl (ix (x := ⟨2 * (M.nb.size + 0), 17, none⟩) (by kernel_rfl) (on (int_of (i := 17) b6 rfl) (on (int_of (i := 17 + 1) b6 rfl) (stN (cs := #[.int .i64 b.v0, .int .i64 b.v1]) f6 rfl rfl rfl fun M7 K7 z7 u7 => ?_))))))
      have T7 := T6.trans K7
      have b7 := at_keep b6 K7
      have lb := lt_of_at b6
      refine ad rfl (ix (x := ⟨2 * (M.nb.size + 0), 14, none⟩) (by kernel_rfl) (on (int_of (i := 14) b7 rfl) ?_))
      by_cases h0 : b.r0 = r
      · have hs : vstep r out (atS px py L) = if out.length < 2 ∧ (b.v0, b.v1) ∉ out then out ++ [(b.v0, b.v1)] else out := by rw [vst, hvb, if_neg (by simp [hit]), if_pos h0]
        refine cF (show (b.r0 != r) = false by simp [h0]) ?_
        match out, a, ho, hs, k12 with
        | [], _, _, hs, k12 => exact cT rfl (k12 _ (b.v0, b.v1) true _ T7 u7 (by rw [hs, if_pos ⟨by decide, by simp⟩]; rfl) (by simp))
        | [w], a, _, hs, k12 =>
          have a7 := at_keep a T7
          refine cF rfl (cT rfl (on (int_of (i := 0) u7 rfl) (on (int_of (i := 0 + 1) u7 rfl) (ix (x := ⟨2 * jo, 0, none⟩) (by kernel_rfl) (on (int_of (i := 0) a7 rfl) (on (int_of (i := 0 + 1) a7 rfl) (pu (nv24 ..) (ty rfl (k12 _ (b.v0, b.v1) _ _ T7 u7 ?_ (by simp))))))))))
          rw [hs]
          by_cases e : (b.v0, b.v1) = w
          · rw [if_neg (by simp [e]), if_neg (by simp [e])]
          · rw [if_pos ⟨by simp, by simp [e]⟩, if_pos (by simp only [Bool.not_eq_true', decide_eq_false_iff_not]; exact e)]
        | [p, q], _, _, hs, k12 => exact cF rfl (cF rfl (k12 _ (b.v0, b.v1) false _ T7 u7 (by rw [hs, if_neg (by simp)]; rfl) (by simp)))
        | _ :: _ :: _ :: _, _, ho, _, _ => simp at ho
      · refine cT (show (b.r0 != r) = true by simp [h0]) (ad rfl (on (bool_of (i := 0 + 13) b7 rfl) ?_))
        cases hcp : b.cp with
        | false => exact cT rfl (w40_11 (cT rfl (stay (by rw [vst, hvb, if_neg (by simp [hit]), if_neg h0, if_neg (by simp [hcp])]) T7)))
        | true =>
          refine cF rfl (ad rfl (ix (x := ⟨2 * (M.nb.size + 0), 15, none⟩) (by kernel_rfl) (on (int_of (i := 15) b7 rfl) ?_)))
          by_cases h1 : b.r1 = r
          · have hs : vstep r out (atS px py L) = if out.length < 2 ∧ (b.v2, b.v3) ∉ out then out ++ [(b.v2, b.v3)] else out := by rw [vst, hvb, if_neg (by simp [hit]), if_neg h0, if_pos ⟨hcp, h1⟩]
            rw [show (b.r1 != r) = false by simp [h1]]
            refine w40_11 (cF rfl (ad rfl (ix (x := ⟨2 * (M.nb.size + 0), 19, none⟩) (by kernel_rfl) (on (int_of (i := 19) b7 rfl) (on (int_of (i := 19 + 1) b7 rfl) (ad rfl (stA (cs := #[.int .i64 b.v2, .int .i64 b.v3]) u7 (by rw [T7.floor]; omega) rfl rfl rfl fun M8 C8 z8 u8 => ?_)))))))
            have T8 : Keep M M8 := Keep.step T7 C8 fun i hi => by omega
            match out, a, ho, hs, k12 with
            | [], _, _, hs, k12 => exact cT rfl (k12 _ (b.v2, b.v3) true _ T8 u8 (by rw [hs, if_pos ⟨by decide, by simp⟩]; rfl) (by simp))
            | [w], a, _, hs, k12 =>
              have a8 := at_keep a T8
              refine cF rfl (cT rfl (ad rfl (on (int_of (i := 0) u8 rfl) (on (int_of (i := 0 + 1) u8 rfl) (ix (x := ⟨2 * jo, 0, none⟩) (by kernel_rfl) (on (int_of (i := 0) a8 rfl) (on (int_of (i := 0 + 1) a8 rfl) (pu (nv24 ..) (ty rfl (k12 _ (b.v2, b.v3) _ _ T8 u8 ?_ (by simp)))))))))))
              rw [hs]
              by_cases e : (b.v2, b.v3) = w
              · rw [if_neg (by simp [e]), if_neg (by simp [e])]
              · rw [if_pos ⟨by simp, by simp [e]⟩, if_pos (by simp only [Bool.not_eq_true', decide_eq_false_iff_not]; exact e)]
            | [p, q], _, _, hs, k12 => exact cF rfl (cF rfl (k12 _ (b.v2, b.v3) false _ T8 u8 (by rw [hs, if_neg (by simp)]; rfl) (by simp)))
            | _ :: _ :: _ :: _, _, ho, _, _ => simp at ho
          · rw [show (b.r1 != r) = true by simp [h1]]
            exact w40_11 (cT rfl (stay (by rw [vst, hvb, if_neg (by simp [hit]), if_neg h0, if_neg (fun q => h1 q.2)]) T7))
set_option maxHeartbeats 2000000 in
theorem c40 {w h : Int} (hf : M.floor ≤ M.nb.size) (G : Rf V M j t L) : Cn Try.prog 40 #[PtrB j, .agg #[.int .i64 x, .int .i64 y, .int .i64 w, .int .i64 h], .int .i64 r] M fun v N => v = vecsV L t x y w r ∧ Keep M N := by
  have a := Mem.new_at M (.cells #[.int .i64 x, .int .i64 y, .int .i64 w, .int .i64 h] 35)
  have K1 : Keep M (M.new (.cells #[.int .i64 x, .int .i64 y, .int .i64 w, .int .i64 h] 35)) := .new _ _
  have z1 := Mem.new_size M (.cells #[.int .i64 x, .int .i64 y, .int .i64 w, .int .i64 h] 35)
  refine w40_0 ?_
  generalize M.new (.cells #[.int .i64 x, .int .i64 y, .int .i64 w, .int .i64 h] 35) = M1 at a K1 z1 ⊢
  have ar := Mem.new_at M1 (.cells #[.int .i64 0, .int .i64 0, .int .i64 0, .int .i64 0] 25)
  have K2 : Keep M1 (M1.new (.cells #[.int .i64 0, .int .i64 0, .int .i64 0, .int .i64 0] 25)) := .new _ _
  have z2 := Mem.new_size M1 (.cells #[.int .i64 0, .int .i64 0, .int .i64 0, .int .i64 0] 25)
  generalize M1.new (.cells #[.int .i64 0, .int .i64 0, .int .i64 0, .int .i64 0] 25) = M2 at ar K2 z2 ⊢
  have ao := Mem.new_at M2 (.cells #[.int .i64 0, .int .i64 0, .int .i64 0, .int .i64 0] 25)
  have K3 : Keep M2 (M2.new (.cells #[.int .i64 0, .int .i64 0, .int .i64 0, .int .i64 0] 25)) := .new _ _
  have z3 := Mem.new_size M2 (.cells #[.int .i64 0, .int .i64 0, .int .i64 0, .int .i64 0] 25)
  generalize M2.new (.cells #[.int .i64 0, .int .i64 0, .int .i64 0, .int .i64 0] 25) = M3 at ao K3 z3 ⊢
  have a3 := at_keep (at_keep a K2) K3
  have ar3 := at_keep ar K3
  have T3 := (K1.trans K2).trans K3
  have G3 := G.keep T3
  obtain ⟨A, c, g1, _⟩ := G3.ex
  have f3 := fb hf T3
  have hm := G.may
  unfold Tl.may spanB at hm
  simp only [Bool.and_eq_true, decide_eq_true_eq] at hm
  have flr : M3.floor ≤ M.nb.size := by rw [T3.floor]; exact hf
  -- the end: what is told is copied
  have endQ : ∀ {N : Mem} {out : List (Int × Int)} {e : Int}, Chg (fun i => i = M2.nb.size) M3 N → N.nb[M2.nb.size]? = some (.cells (outC out) 25) → ∀ {P : Int → Int → Int → Int → Mem → Prop}, (∀ p q u s N', #[.int .i64 p, .int .i64 q, .int .i64 u, .int .i64 s] = outC out → Keep M N' → P p q u s N') →
      onS (N.intAt .i64 (2 * M2.nb.size) 0) fun p => onS (N.intAt .i64 (2 * M2.nb.size) (0 + 1)) fun q => onS (N.intAt .i64 (2 * M2.nb.size) (0 + 2)) fun u => onS (N.intAt .i64 (2 * M2.nb.size) (0 + 3)) fun s =>
        adS (some (⟨2 * M1.nb.size, 0, none⟩ : Addr)) fun a' => stP (some 4) #[.int .i64 p, .int .i64 q, .int .i64 u, .int .i64 s] N a'.block a'.off fun N' => adS (some (⟨2 * M1.nb.size, 0, none⟩ : Addr)) fun a2 =>
          onS (N'.intAt .i64 a2.block a2.off) fun p => onS (N'.intAt .i64 a2.block (a2.off + 1)) fun q => onS (N'.intAt .i64 a2.block (a2.off + 2)) fun u => onS (N'.intAt .i64 a2.block (a2.off + 3)) fun s => P p q u s N' := by
    intro N out e C u P hP
    refine on4 u fun p q u' s hc => ad rfl (stA (cs := #[.int .i64 p, .int .i64 q, .int .i64 u', .int .i64 s]) (at_chg ar3 C (by omega)) (by rw [C.floor]; omega) rfl rfl rfl fun N' C' z' b' => ad rfl ?_)
    rw [hc] at b'
    refine on4 b' fun p q u' s hc' => hP _ _ _ _ _ hc' ?_
    exact Keep.step (Keep.step T3 C fun i hi => by omega) C' fun i hi => by omega
  have bad : vecsOk t x y w r = false → A40_7 (some ⟨2 * j, 0, none⟩) r (some ⟨2 * M.nb.size, 0, none⟩) (some ⟨2 * M1.nb.size, 0, none⟩) (some ⟨2 * M2.nb.size, 0, none⟩) true M3 (fun v N => v = vecsV L t x y w r ∧ Keep M N) := fun h =>
    w40_7 (cT rfl (ad rfl (endQ (out := []) (e := 0) (.refl _) ao fun p q u s N' hc K => ⟨by unfold vecsV; rw [h, ← hc]; rfl, K⟩)))
  have key : ∀ b : Bool, b = !vecsOk t x y w r → A40_7 (some ⟨2 * j, 0, none⟩) r (some ⟨2 * M.nb.size, 0, none⟩) (some ⟨2 * M1.nb.size, 0, none⟩) (some ⟨2 * M2.nb.size, 0, none⟩) b M3 (fun v N => v = vecsV L t x y w r ∧ Keep M N) := by
    intro b hb
    cases hok : vecsOk t x y w r with
    | false => rw [hok] at hb; rw [hb]; exact bad hok
    | true =>
      rw [hok] at hb
      rw [hb]
      unfold vecsOk at hok
      simp only [Bool.and_eq_true, decide_eq_true_eq] at hok
      have hin := of_decide_eq_true hok.1.2
      refine w40_7 (cF rfl (ad rfl (on (int_of (i := 0) a3 rfl) (ad rfl (on (int_of (i := 0) a3 rfl) (ad rfl (on (int_of (i := 0) a3 rfl) (ad rfl (on (int_of (i := 0 + 2) a3 rfl) (ad rfl (on (int_of (i := 0) a3 rfl) ?_)))))))))))
      rw [i64w (x := x - 1) (by omega), i64w (x := x + w) (by omega)]
      have ax := Mem.new_at M3 (.cells #[.int .i64 (x - 1), .int .i64 x, .int .i64 (x + w), .int .i64 (x - 1)] 3)
      have K4 : Keep M3 (M3.new (.cells #[.int .i64 (x - 1), .int .i64 x, .int .i64 (x + w), .int .i64 (x - 1)] 3)) := .new _ _
      have z4 := Mem.new_size M3 (.cells #[.int .i64 (x - 1), .int .i64 x, .int .i64 (x + w), .int .i64 (x - 1)] 3)
      generalize M3.new (.cells #[.int .i64 (x - 1), .int .i64 x, .int .i64 (x + w), .int .i64 (x - 1)] 3) = M4 at ax K4 z4 ⊢
      have a4 := at_keep a3 K4
      refine ad rfl (on (int_of (i := 0 + 1) a4 rfl) (ad rfl (on (int_of (i := 0 + 1) a4 rfl) (ad rfl (on (int_of (i := 0 + 1) a4 rfl) (ad rfl (on (int_of (i := 0 + 1) a4 rfl) ?_)))))))
      rw [i64w (x := y - 1) (by omega)]
      have ay := Mem.new_at M4 (.cells #[.int .i64 y, .int .i64 (y - 1), .int .i64 (y - 1), .int .i64 (y - 1)] 3)
      have K5 : Keep M4 (M4.new (.cells #[.int .i64 y, .int .i64 (y - 1), .int .i64 (y - 1), .int .i64 (y - 1)] 3)) := .new _ _
      have z5 := Mem.new_size M4 (.cells #[.int .i64 y, .int .i64 (y - 1), .int .i64 (y - 1), .int .i64 (y - 1)] 3)
      generalize M4.new (.cells #[.int .i64 y, .int .i64 (y - 1), .int .i64 (y - 1), .int .i64 (y - 1)] 3) = M5 at ay K5 z5 ⊢
      have ax5 := at_keep ax K5
      have T5 := K4.trans K5
      have ao5 := at_keep ao T5
      have G5 := G3.keep T5
      have f5 := fb f3 T5
      have fo : M5.floor ≤ M2.nb.size := by rw [T5.floor]; omega
      have lx := lt_of_at ax5
      have nx : M3.nb.size ≠ M2.nb.size := by omega
      have ny : M4.nb.size ≠ M2.nb.size := by omega
      have st : ∀ {N : Mem}, Chg (· = M2.nb.size) M5 N → Rf V N j t L ∧ N.floor ≤ N.nb.size ∧ N.floor ≤ M2.nb.size ∧ N.nb[M3.nb.size]? = some (.cells #[.int .i64 (x - 1), .int .i64 x, .int .i64 (x + w), .int .i64 (x - 1)] 3) ∧ N.nb[M4.nb.size]? = some (.cells #[.int .i64 y, .int .i64 (y - 1), .int .i64 (y - 1), .int .i64 (y - 1)] 3) := fun {N} C => by
        exact ⟨(G.keep (K1.trans K2)).keep (Keep.step ((K3.trans K4).trans K5) C fun i hi => by omega), by rw [C.floor]; have := C.size; omega, by rw [C.floor]; omega, at_chg ax5 C nx, at_chg ay C ny⟩
      refine e40_8 (i := 0) (out := []) (by decide) (fun n => by kernel_rfl) rfl rfl f5 G5 (by decide) ax5 ay ao5 fo fun N1 C1 a1 => ?_
      obtain ⟨G6, f6, fo6, ax6, ay6⟩ := st C1
      refine e40_8 (i := 1) (by decide) (fun n => by kernel_rfl) rfl rfl f6 G6 (vstep_len (by decide)) ax6 ay6 a1 fo6 fun N2 C2 a2 => ?_
      have C2 := C1.trans C2
      obtain ⟨G7, f7, fo7, ax7, ay7⟩ := st C2
      refine e40_8 (i := 2) (by decide) (fun n => by kernel_rfl) rfl rfl f7 G7 (vstep_len (vstep_len (by decide))) ax7 ay7 a2 fo7 fun N3 C3 a3 => ?_
      have C3 := C2.trans C3
      obtain ⟨G8, f8, fo8, ax8, ay8⟩ := st C3
      refine e40_8 (i := 3) (by decide) (fun n => by kernel_rfl) rfl rfl f8 G8 (vstep_len (vstep_len (vstep_len (by decide)))) ax8 ay8 a3 fo8 fun N4 C4 a4 => ?_
      have C4 := C3.trans C4
      have CC : Chg (fun i => i = M2.nb.size) M3 N4 := (T5.mono fun _ _ h => h.elim).trans C4
      refine w40_8 (cF rfl (ad rfl (endQ (e := 0) CC a4 fun p q u s N' hc K => ⟨?_, K⟩)))
      unfold vecsV vecsOk
      rw [decide_eq_true hok.1.1, hok.1.2, decide_eq_true hok.2]
      show Value.tuple #[.agg #[.int .i64 p, .int .i64 q, .int .i64 u, .int .i64 s], _, _] = Value.tuple #[.agg (outC (vecsS L x y w r)), _, _]
      rw [hc]
      rfl
  have t8 : ∀ z : Int, z.tmod 8 = 0 ↔ z % 8 = 0 := fun z => tmod_eq (a := z) 8 (by decide)
  have e : ((((((((x.tmod 8 != 0) || (y.tmod 8 != 0)) || !t.in x y) || decide (w < 8)) || decide (w > 64)) || (w.tmod 8 != 0)) || decide (r < 0)) || decide (r > 2)) = !vecsOk t x y w r := by
    have h : vecsOk t x y w r = true ↔ ((x % 8 = 0 ∧ y % 8 = 0) ∧ t.in x y = true) ∧ (8 ≤ w ∧ w ≤ 64 ∧ w % 8 = 0 ∧ 0 ≤ r ∧ r ≤ 2) := by
      unfold vecsOk
      simp only [Bool.and_eq_true, decide_eq_true_eq]
    have t1 := t8 x
    have t2 := t8 y
    have t3 := t8 w
    rw [Bool.eq_iff_iff]
    simp only [Bool.or_eq_true, bne_iff_ne, decide_eq_true_eq, Bool.not_eq_true', ← Bool.not_eq_true, h]
    constructor
    · rintro (((((((q | q) | q) | q) | q) | q) | q) | q) <;> intro g <;> first | exact q g.1.2 | omega
    · intro g
      by_cases hin : t.in x y = true
      · by_cases h1 : x.tmod 8 = 0
        · by_cases h2 : y.tmod 8 = 0
          · by_cases h3 : w.tmod 8 = 0
            · have : ¬ (8 ≤ w ∧ w ≤ 64 ∧ w % 8 = 0 ∧ 0 ≤ r ∧ r ≤ 2) := fun q => g ⟨⟨⟨t1.1 h1, t2.1 h2⟩, hin⟩, q⟩
              have h3' := t3.1 h3
              by_cases c1 : w < 8
              · exact .inl (.inl (.inl (.inl (.inr c1))))
              · by_cases c2 : w > 64
                · exact .inl (.inl (.inl (.inr c2)))
                · by_cases c3 : r < 0
                  · exact .inl (.inr c3)
                  · exact .inr (by omega)
            · exact .inl (.inl (.inr h3))
          · exact .inl (.inl (.inl (.inl (.inl (.inl (.inr h2))))))
        · exact .inl (.inl (.inl (.inl (.inl (.inl (.inl h1))))))
      · exact .inl (.inl (.inl (.inl (.inl (.inr hin)))))
  have k7 := key _ e
  refine on (int_of (i := 0) a3 rfl) ?_
  refine cO2 (c := (y.tmod 8) != 0) (fun z => A40_1 (some ⟨2 * j, 0, none⟩) r (some ⟨2 * M.nb.size, 0, none⟩) (some ⟨2 * M1.nb.size, 0, none⟩) (some ⟨2 * M2.nb.size, 0, none⟩) z M3 (fun v N => v = vecsV L t x y w r ∧ Keep M N)) (w40_1 ?_) ?k1
  case k1 => exact fun h => on (int_of (i := 0 + 1) a3 rfl) h
  refine cO2 (c := !t.in x y) (fun z => A40_2 (some ⟨2 * j, 0, none⟩) r (some ⟨2 * M.nb.size, 0, none⟩) (some ⟨2 * M1.nb.size, 0, none⟩) (some ⟨2 * M2.nb.size, 0, none⟩) z M3 (fun v N => v = vecsV L t x y w r ∧ Keep M N)) (w40_2 ?_) ?k2
  case k2 => exact fun h => ad rfl (on (int_of (i := 0) a3 rfl) (ad rfl (on (int_of (i := 0 + 1) a3 rfl) (Cn.eq (c35 g1 G.may) (ty rfl h)))))
  refine cO2 (c := decide (w < 8)) (fun z => A40_3 (some ⟨2 * j, 0, none⟩) r (some ⟨2 * M.nb.size, 0, none⟩) (some ⟨2 * M1.nb.size, 0, none⟩) (some ⟨2 * M2.nb.size, 0, none⟩) z M3 (fun v N => v = vecsV L t x y w r ∧ Keep M N)) (w40_3 ?_) ?k3
  case k3 => exact fun h => ad rfl (on (int_of (i := 0 + 2) a3 rfl) h)
  refine cO2 (c := decide (w > 64)) (fun z => A40_4 (some ⟨2 * j, 0, none⟩) r (some ⟨2 * M.nb.size, 0, none⟩) (some ⟨2 * M1.nb.size, 0, none⟩) (some ⟨2 * M2.nb.size, 0, none⟩) z M3 (fun v N => v = vecsV L t x y w r ∧ Keep M N)) (w40_4 ?_) ?k4
  case k4 => exact fun h => ad rfl (on (int_of (i := 0 + 2) a3 rfl) h)
  refine cO2 (c := (w.tmod 8) != 0) (fun z => A40_5 (some ⟨2 * j, 0, none⟩) r (some ⟨2 * M.nb.size, 0, none⟩) (some ⟨2 * M1.nb.size, 0, none⟩) (some ⟨2 * M2.nb.size, 0, none⟩) z M3 (fun v N => v = vecsV L t x y w r ∧ Keep M N)) (w40_5 ?_) ?k5
  case k5 => exact fun h => ad rfl (on (int_of (i := 0 + 2) a3 rfl) h)
  refine cO (fun z => A40_6 (some ⟨2 * j, 0, none⟩) r (some ⟨2 * M.nb.size, 0, none⟩) (some ⟨2 * M1.nb.size, 0, none⟩) (some ⟨2 * M2.nb.size, 0, none⟩) z M3 (fun v N => v = vecsV L t x y w r ∧ Keep M N)) (w40_6 ?_)
  exact cO (fun z => A40_7 (some ⟨2 * j, 0, none⟩) r (some ⟨2 * M.nb.size, 0, none⟩) (some ⟨2 * M1.nb.size, 0, none⟩) (some ⟨2 * M2.nb.size, 0, none⟩) z M3 (fun v N => v = vecsV L t x y w r ∧ Keep M N)) k7
end
end Go.Zt
