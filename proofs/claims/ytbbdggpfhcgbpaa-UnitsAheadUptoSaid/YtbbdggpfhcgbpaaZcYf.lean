/- Layer 19: what UnitsAhead comes to. -/
import Derived.Test.YtbbdggpfhcgbpaaZcYe
import Derived.Test.YtbbdggpfhcgbpaaZcDg
set_option linter.unusedSimpArgs false
set_option linter.unusedVariables false
namespace Go.Zt
open Go Go.Sim Go.Proofs Go.RowKit

theorem Obs_take : ∀ (l : List Ob) (j : Nat), (Obs l).take (j * 2) = Obs (l.take j)
  | [], j => by simp
  | x :: l, 0 => by simp
  | x :: l, j + 1 => by
    rw [show (j + 1) * 2 = j * 2 + 1 + 1 by omega]
    show x.cells[0] :: x.cells[1] :: (Obs l).take (j * 2) = _
    rw [Obs_take l j]; rfl
theorem Obs_drop : ∀ (l : List Ob) (j : Nat), (Obs l).drop (j * 2) = Obs (l.drop j)
  | [], j => by simp
  | x :: l, 0 => by simp
  | x :: l, j + 1 => by
    rw [show (j + 1) * 2 = j * 2 + 1 + 1 by omega]
    exact Obs_drop l j
/-- A list that can be read, with its room. -/
structure ObC (M : Mem) (A : Option Addr) (n c : Nat) (l : List Ob) : Prop where
  rd : ObR M A l
  len : n = l.length
  cap : n ≤ c
  nil : A = none → c = 0
theorem ObC.pre {M : Mem} {A : Option Addr} {n c j : Nat} {l : List Ob} (h : ObC M A n c l) (hj : j ≤ n) {z : Int} (hz : z = (j : Int)) :
    ∃ A', sliceP Try.prog 24 (.slice A n c) none (some (.int .i64 z)) none = some (.slice A' j c) ∧ ObR M A' (l.take j) := by
  obtain ⟨A', s1, s2, s3, s4⟩ := slice_row el24 h.rd.1 (n := n) (c := c) (l := 0) (h := j) (by rw [Obs_len, h.len]) h.cap h.nil (lo := none) (hi := some (.int .i64 z)) rfl
    (bound_lo hz (by have := h.cap; omega)) (Nat.zero_le _) hj
  rw [Nat.zero_mul, List.drop_zero, Nat.sub_zero, Obs_take] at s2
  exact ⟨A', s1, s2, fun o ho => h.rd.2 o (List.mem_of_mem_take ho)⟩
theorem ObC.suf {M : Mem} {A : Option Addr} {n c j : Nat} {l : List Ob} (h : ObC M A n c l) (hj : j ≤ n) {z : Int} (hz : z = (j : Int)) :
    ∃ A', sliceP Try.prog 24 (.slice A n c) (some (.int .i64 z)) none none = some (.slice A' (n - j) (c - j)) ∧ ObR M A' (l.drop j) := by
  obtain ⟨A', s1, s2, s3, s4⟩ := slice_row el24 h.rd.1 (n := n) (c := c) (l := j) (h := n) (by rw [Obs_len, h.len]) h.cap h.nil (lo := some (.int .i64 z)) (hi := none)
    (bound_lo hz (by omega)) rfl hj (Nat.le_refl _)
  rw [Obs_drop, List.take_of_length_le (by rw [Obs_len, List.length_drop, h.len]; exact Nat.le_refl _)] at s2
  exact ⟨A', s1, s2, fun o ho => h.rd.2 o (List.mem_of_mem_drop ho)⟩
theorem Ol.obc {b0 : Nat} {M : Mem} {A : Option Addr} {c : Nat} {l : List Ob} (h : Ol b0 M A c l) : ObC M A l.length c l := by
  have hr := h.rd
  obtain ⟨D, _, h2, _⟩ := h
  have hc := h2.cap
  rw [Obs_len] at hc
  exact ⟨hr, rfl, by omega, fun e => by have := h2.none_zero e; omega⟩
theorem c10w {M : Mem} (hf : M.floor ≤ M.nb.size) {A : Option Addr} {n c : Nat} {b : List Nat} (hR : Row M A (U8 b)) (hn : n = b.length) (hb : n ≤ 2199023255552) :
    Cn Try.prog 10 #[.slice A n c] M fun v N => ∃ A' c', v = .slice A' n c' ∧ Keep M N ∧ Own (fun j => M.nb.size ≤ j) N 5 A' c' (U8 b) ∧ n ≤ c' := by
  obtain ⟨A', c', M', g1, g2, g3, g4⟩ := append_own el5 (Own.empty (S := fun j => M.nb.size ≤ j) (M := M) (e := 5)) (n := 0) (c := 0) (k := n) (by simp) hR (by simp [hn]) (u8_one b) (fun j hj => Nat.le_trans hf hj) (Nat.le_refl _) (by omega)
  rw [Nat.zero_add] at g1 g4
  exact w10_0 ⟨_, g1, _, rfl, A', c', rfl, Keep.step (.refl _) g2 fun j hj => hj, by simpa using g3, g4⟩
section
variable {A : Option Addr} {n c : Nat} {l : List Ob}
theorem c7 {M : Mem} (hf : M.floor ≤ M.nb.size) (hA : Row M A (Obs l)) (hAo : Old A) (hn : n = l.length) (hb : n ≤ 1048576) (hg : ∀ o ∈ l, ObG M 1048576 o)
    {B : Option Addr} {nb cb : Nat} {b : List Nat} (hBR : Row M B (U8 b)) (hBo : Old B) (hnb : nb = b.length) (hbb : nb ≤ 1048576) (hcb : nb ≤ cb) (hB0 : B = none → cb = 0) (hBy : Byt b)
    {x : Int} (hx : -9223372036854775808 ≤ x ∧ x ≤ 9223372036854775807) :
    Cn Try.prog 7 #[.slice A n c, .slice B nb cb, .int .i64 x] M fun v _ => v = .bool true := by
  refine w7_0 (Cn.known (by rfl) ⟨_, rfl, fun h => (by cases h), fun _ => Cn.mono (c22 hf hA hAo hn hb hg) ?_⟩)
  rintro v N ⟨A2, c2, l2, rfl, hp, K1, O2, hc2, hG2⟩
  have hl2 : l2.length = n := by
    have := congrArg List.length hp
    simp at this; omega
  have hf1 : N.floor ≤ N.nb.size := by rw [K1.floor]; exact Nat.le_trans hf K1.size
  have hR : ∀ {N' : Mem}, Keep N N' → ObR N' A2 l2 := fun K => ⟨O2.row.keep K, fun o ho => (hG2 o ho).row.keep (K1.trans K)⟩
  have hRC : ∀ {N' : Mem}, Keep N N' → ObC N' A2 l2.length c2 l2 := fun K => ⟨hR K, rfl, hc2, fun e => by have := O2.none_zero e; omega⟩
  have hgood : ∀ x ∈ l2.map Ob.pc, goodP x ∧ Byt x.2 := fun x hx => by
    obtain ⟨o, ho, rfl⟩ := List.mem_map.1 hx
    exact ⟨(hG2 o ho).good, (hG2 o ho).byt⟩
  have hsh : ∀ x ∈ l2.map Ob.pc, x.2.length ≤ 1048576 := fun x hx => by
    obtain ⟨o, ho, rfl⟩ := List.mem_map.1 hx
    exact (hG2 o ho).len
  have hfl : ((l2.map Ob.pc).flatMap encP).length ≤ 1099517919232 := by
    have := flat_bound hsh
    rw [List.length_map] at this
    have h9 : l2.length * 1048582 ≤ 1048576 * 1048582 := Nat.mul_le_mul_right _ (by omega)
    exact Nat.le_trans this (Nat.le_trans h9 (by decide))
  have hP2 : (l2.map Ob.pc).length = l2.length := List.length_map ..
  have hlen2 : ∀ o ∈ l2, o.b.length ≤ 4611686018427387904 := fun o ho => Nat.le_trans (hG2 o ho).len (by decide)
  have spl_le : ∀ (b' : List Nat), (spl b').1.length ≤ b'.length := fun b' => splitS_len _ _
  have spl_bb : ∀ (b' : List Nat) (l' : List Ob), l'.map Ob.pc = (spl b').1 → b'.length ≤ 4611686018427387904 → ∀ o ∈ l', o.b.length ≤ 4611686018427387904 := fun b' l' he hb' o ho => by
    have h1 : o.pc ∈ l'.map Ob.pc := List.mem_map_of_mem ho
    rw [he] at h1
    exact Nat.le_trans (splitS_b _ _ _ h1) hb'
  refine ⟨_, rfl, Cn.mono (c18 hf1 (hR (.refl _)) rfl (show l2.length ≤ _ by omega)) ?_⟩
  rw [joinS_good _ _ fun x hx => (hgood x hx).1, List.nil_append]
  have hFB := flat_byt hgood
  have esA := fun rest => spl_all (l2.map Ob.pc) rest fun x hx => (hgood x hx).1
  have ecut := fun cut => spl_cut (l2.map Ob.pc) cut fun x hx => (hgood x hx).1
  generalize hF : (l2.map Ob.pc).flatMap encP = F at hfl hFB esA ecut
  rintro v2 N2 ⟨A3, c3, rfl, K2, O3⟩
  dsimp only at O3 ⊢
  have hf2 : N2.floor ≤ N2.nb.size := by rw [K2.floor]; exact Nat.le_trans hf1 K2.size
  refine ⟨_, rfl, _, rfl, _, rfl, fun h => absurd rfl h, fun _ => Cn.mono (c10w (n := F.length) (c := c3) hf2 O3.row rfl (by omega)) ?_⟩
  rintro v3 N3 ⟨A4, c4, rfl, K3, O4, hc4⟩
  have K13 := (K1.trans K2).trans K3
  obtain ⟨A5, c5, N4, q1, K4, O5⟩ := app_u8 (M0 := N2) (c := c4) hf2 K3 O4 (X := B) (cx := cb) (k := nb) (hBR.old hBo K13) (n := F.length) rfl hnb (by omega)
  have K14 : Keep M N4 := (K1.trans K2).trans K4
  have hf4 : N4.floor ≤ N4.nb.size := by rw [K14.floor]; exact Nat.le_trans hf K14.size
  refine ⟨_, rfl, _, q1, _, rfl, Cn.mono (c11 hf4 O5.row (show F.length + nb = (F ++ b).length by rw [List.length_append]; omega) (show F.length + nb ≤ _ by omega) (show F.length + nb ≤ c5 by have := O5.cap; simp at this; omega) O5.none_zero (fun y hy => (List.mem_append.1 hy).elim (hFB y) (hBy y))) ?_⟩
  show ∀ v N, SpR N4 [] 0 (spl (F ++ b)) v N → _
  have hple := spl_le (F ++ b)
  have hpbb := spl_bb (F ++ b)
  rw [esA] at hple hpbb ⊢
  dsimp only at hple hpbb ⊢
  rw [List.length_append] at hple hpbb
  rintro v5 N5 ⟨A6, c6, l6, rfl, hp6, K5, O6⟩
  have hp6' : l6.map Ob.pc = l2.map Ob.pc ++ (spl b).1 := by simpa using hp6
  have hl6 : l6.length = l2.length + (spl b).1.length := by
    have := congrArg List.length hp6'
    simpa using this
  have K15 := K14.trans K5
  have hf5 : N5.floor ≤ N5.nb.size := by rw [K5.floor]; exact Nat.le_trans hf4 K5.size
  refine ⟨_, rfl, _, rfl, _, rfl, _, rfl, Cn.mono (c11 hf5 (hBR.old hBo K15) hnb (by omega) hcb hB0 hBy) ?_⟩
  show ∀ v N, SpR N5 [] 0 (spl b) v N → _
  rintro v6 N6 ⟨A7, c7, l7, rfl, hp7, K6, O7⟩
  have hp7' : l7.map Ob.pc = (spl b).1 := by simpa using hp7
  have hl7 : l7.length = (spl b).1.length := by
    have := congrArg List.length hp7'
    simpa using this
  have hsb := spl_le b
  obtain ⟨sb1, sb2, sb3, sb4⟩ := spl_back b.length b (Nat.le_refl _) hBy
  have K16 := K15.trans K6
  have hf6 : N6.floor ≤ N6.nb.size := by rw [K6.floor]; exact Nat.le_trans hf5 K6.size
  have KN : Keep N N6 := ((K2.trans K4).trans K5).trans K6
  have hC6 := (O6.keep K6).obc
  refine ⟨_, rfl, _, rfl, _, rfl, _, rfl, fun h => absurd rfl h, fun _ => w7_1 ⟨fun h => ?_, fun _ => w7_2 ⟨fun h => ?_, fun _ => ?_⟩⟩⟩
  · exfalso
    have h : (((0 + (F.length + (spl b).2.1) : Nat) : Int) != IntKind.i64.wrap ((F.length : Int) + ((0 + (spl b).2.1 : Nat) : Int))) = true := h
    rw [i64w (by omega), show ((F.length : Int) + ((0 + (spl b).2.1 : Nat) : Int)) = ((0 + (F.length + (spl b).2.1) : Nat) : Int) by omega] at h
    simp at h
  · exfalso
    have h : (((l6.length : Nat) : Int) != IntKind.i64.wrap ((l2.length : Int) + (l7.length : Nat))) = true := h
    rw [i64w (by omega), show ((l2.length : Int) + (l7.length : Nat)) = ((l6.length : Nat) : Int) by omega] at h
    simp at h
  obtain ⟨A8, s1, s2⟩ := hC6.pre (j := l2.length) (by omega) (z := (l2.length : Nat)) rfl
  obtain ⟨A9, t1, t2⟩ := hC6.suf (j := l2.length) (by omega) (z := (l2.length : Nat)) rfl
  have e8 : (l6.take l2.length).map Ob.pc = l2.map Ob.pc := by
    rw [List.map_take, hp6', List.take_append_of_le_length (by rw [hP2]; exact Nat.le_refl _), List.take_of_length_le (by rw [hP2]; exact Nat.le_refl _)]
  have e9 : (l6.drop l2.length).map Ob.pc = l7.map Ob.pc := by
    rw [List.map_drop, hp6', hp7', ← hP2, List.drop_left]
  have h6b := hpbb l6 hp6' (by omega)
  refine ⟨_, s1, _, rfl, Cn.eq (c13 (n := l2.length) (m := l2.length) s2 (hR KN) (by rw [List.length_take]; omega) rfl (show l2.length ≤ _ by omega) fun o ho => h6b o (List.mem_of_mem_take ho)) ⟨_, rfl, w7_3 ⟨fun h => ?_, fun _ => ?_⟩⟩⟩
  · simp [e8] at h
  refine ⟨_, t1, _, rfl, Cn.eq (c13 (n := l6.length - l2.length) (m := l7.length) t2 O7.rd (by rw [List.length_drop]) rfl (show l6.length - l2.length ≤ _ by omega) fun o ho => h6b o (List.mem_of_mem_drop ho)) ⟨_, rfl, w7_4 ⟨fun h => ?_, fun _ => ?_⟩⟩⟩
  · simp [e9] at h
  have hbr : 0 ≤ brg x ((F.length : Int) + 1) ∧ brg x ((F.length : Int) + 1) ≤ (F.length : Int) := by
    unfold brg; rw [if_neg (by omega)]
    have h1 := Int.emod_nonneg x (show ((F.length : Int) + 1) ≠ 0 by omega)
    have h2 := Int.emod_lt_of_pos x (show (0 : Int) < (F.length : Int) + 1 by omega)
    omega
  show Cn Try.prog 23 #[.int .i64 x, .int .i64 (IntKind.i64.wrap ((F.length : Int) + 1))] N6 _
  rw [i64w (x := (F.length : Int) + 1) (by omega)]
  refine Cn.eq (c23 hx (by omega)) ?_
  generalize brg x ((F.length : Int) + 1) = cz at hbr
  obtain ⟨cut, rfl⟩ : ∃ cut : Nat, cz = (cut : Int) := ⟨cz.toNat, by omega⟩
  have hF6 : Row N6 A3 (U8 F) := ((O3.row.keep K4).keep K5).keep K6
  have hc3 : F.length ≤ c3 := by have := O3.cap; simpa using this
  obtain ⟨B1, u1, u2, u3, u4⟩ := slice_row el5 hF6 (n := F.length) (c := c3) (l := 0) (h := cut) (by simp) hc3 O3.none_zero (lo := none) (hi := some (.int .i64 (cut : Int))) rfl
    (bound_lo rfl (by omega)) (Nat.zero_le _) (by omega)
  have eu : (List.drop (0 * 1) (U8 F)).take ((cut - 0) * 1) = U8 (F.take cut) := by
    rw [Nat.zero_mul, List.drop_zero, Nat.sub_zero, Nat.mul_one, ← List.map_take]
  rw [eu] at u2
  obtain ⟨j, j1, j2, j3, j4, j5, j6, j7⟩ := ecut cut (by omega)
  have hcl : (F.take cut).length = cut := by rw [List.length_take]; omega
  refine ⟨_, rfl, _, u1, _, rfl, Cn.mono (c11 hf6 u2 (show cut - 0 = _ by omega) (show cut - 0 ≤ _ by omega) (show cut - 0 ≤ c3 - 0 by omega) (fun e => u4 e) (fun y hy => hFB y (List.mem_of_mem_take hy))) ?_⟩
  show ∀ v N, SpR N6 [] 0 (spl (F.take cut)) v N → _
  have hpb8 := spl_bb (F.take cut)
  generalize spl (F.take cut) = S at j2 j3 j4 j5 j6 hpb8
  rintro v8 N8 ⟨A10, c10, l8, rfl, hp8, K8, O8⟩
  have hp8' : l8.map Ob.pc = S.1 := by simpa using hp8
  have hl8 : l8.length = j := by
    have := congrArg List.length hp8'
    rw [j2, List.length_map, List.length_take] at this; omega
  have KN8 := KN.trans K8
  have hf8 : N8.floor ≤ N8.nb.size := by rw [K8.floor]; exact Nat.le_trans hf6 K8.size
  refine ⟨_, rfl, _, rfl, _, rfl, _, rfl, fun h => ?_, fun _ => ?_⟩
  · exfalso
    have h : ((l8.length : Nat) : Int) > (l2.length : Nat) := h
    omega
  obtain ⟨A11, v1, v2⟩ := (hRC KN8).pre (j := l8.length) (by omega) (z := (l8.length : Nat)) rfl
  have e10 : (l2.take l8.length).map Ob.pc = l8.map Ob.pc := by rw [hp8', j2, List.map_take, hl8]
  refine ⟨_, v1, _, rfl, Cn.eq (c13 (n := l8.length) (m := l8.length) O8.rd v2 rfl (by rw [List.length_take]; omega) (show l8.length ≤ _ by omega) (hpb8 l8 hp8' (by omega))) ⟨_, rfl, w7_5 ⟨fun h => ?_, fun _ => w7_6 ⟨fun h => ?_, fun _ => ?_⟩⟩⟩⟩
  · simp [e10] at h
  · exfalso
    have h : (!((((S.2.2 : Nat) : Int) == 0) == (((0 + S.2.1 : Nat) : Int) == (cut : Int)))) = true := h
    have e2 : (((S.2.2 : Nat) : Int) == 0) = (((0 + S.2.1 : Nat) : Int) == (cut : Int)) := by
      rw [Bool.eq_iff_iff, beq_iff_eq, beq_iff_eq]; omega
    rw [e2] at h
    simp at h
  have fin : A7_7 A2 l2.length c2 cut A10 l8.length c10 ((0 + S.2.1 : Nat) : Int) false N8 fun v _ => v = .bool true := by
    obtain ⟨A12, z1, z2⟩ := (hRC KN8).pre (j := l8.length) (by omega) (z := (l8.length : Nat)) rfl
    refine w7_7 ⟨fun h => (by cases h), fun _ => ⟨_, z1, _, rfl, Cn.mono (c18 hf8 z2 (n := l8.length) (by rw [List.length_take]; omega) (show l8.length ≤ _ by omega)) ?_⟩⟩
    have sub : ∀ q, ∀ x ∈ (l2.take q).map Ob.pc, goodP x := fun q x hx => by
      obtain ⟨o, ho, rfl⟩ := List.mem_map.1 hx
      exact (hG2 o (List.mem_of_mem_take ho)).good
    rw [joinS_good _ _ (sub _), List.nil_append]
    rintro v9 N9 ⟨A13, c13', rfl, K9, O9⟩
    have hf9 : N9.floor ≤ N9.nb.size := by rw [K9.floor]; exact Nat.le_trans hf8 K9.size
    have em : (if ((l2.length : Nat) : Int) < IntKind.i64.wrap (((l8.length : Nat) : Int) + 1) then ((l2.length : Nat) : Int) else IntKind.i64.wrap (((l8.length : Nat) : Int) + 1)) = ((min (l8.length + 1) l2.length : Nat) : Int) := by
      rw [i64w (by omega)]; split <;> omega
    obtain ⟨A14, y1, y2⟩ := (hRC (KN8.trans K9)).pre (j := min (l8.length + 1) l2.length) (by omega) em
    refine ⟨_, rfl, _, rfl, _, rfl, _, y1, _, rfl, Cn.mono (c18 hf9 y2 (n := min (l8.length + 1) l2.length) (by rw [List.length_take]; omega) (show min (l8.length + 1) l2.length ≤ _ by omega)) ?_⟩
    rw [joinS_good _ _ (sub _), List.nil_append]
    rintro v10 N10 ⟨A15, c15', rfl, K10, O10⟩
    refine ⟨_, rfl, _, rfl, _, rfl, fun _ => ?_, fun h => absurd rfl h⟩
    have ew : ((l2.take l8.length).map Ob.pc).flatMap encP = ((l2.map Ob.pc).take j).flatMap encP := by rw [List.map_take, hl8]
    refine w7_8 ⟨fun _ => w7_9 ⟨fun _ => ⟨fun _ => rfl, fun hne => ?_⟩, fun h => ?_⟩, fun h => ?_⟩
    · rw [decide_eq_true]
      have hne : ((l8.length : Nat) : Int) ≠ ((l2.length : Nat) : Int) := hne
      have hj : j ≠ (l2.map Ob.pc).length := by omega
      have := j7.resolve_left hj
      show (((((l2.take (min (l8.length + 1) l2.length)).map Ob.pc).flatMap encP).length : Nat) : Int) > (cut : Int)
      rw [List.map_take, show min (l8.length + 1) l2.length = j + 1 by omega]
      omega
    · exfalso
      have h : ((((((l2.take l8.length).map Ob.pc).flatMap encP).length : Nat) : Int) == ((0 + S.2.1 : Nat) : Int)) = false := h
      rw [ew, j3] at h
      simp at h
    · exact absurd h (by simp)
  refine ⟨fun hne => ?_, fun _ => fin⟩
  have hne : ((S.2.2 : Nat) : Int) ≠ 0 := hne
  have h3 : S.2.2 = 3 := by omega
  show A7_7 A2 l2.length c2 cut A10 l8.length c10 ((0 + S.2.1 : Nat) : Int) (((S.2.2 : Nat) : Int) != 3) N8 fun v _ => v = .bool true
  rw [h3]
  exact fin
end
theorem law7 {W : World} {u0 u1 u2 : Value} (s0 : Sees Try.prog (mem0 W) 1048576 8 24 [u0]) (s1 : Sees Try.prog (mem0 W) 1048576 8 22 [u1]) (s2 : Sees Try.prog (mem0 W) 1048576 8 3 [u2]) : Cn Try.prog 7 #[u0, u1, u2] (mem0 W) fun v _ => v = .bool true := by
  obtain ⟨A, n, c, l, e, h1, h2, h3, h4, h5, h6, h7⟩ := sees_obs s0
  obtain ⟨B, nb, cb, b, e', k1, k2, k3, k4, k5, k6, k7⟩ := sees_bytes s1
  obtain ⟨x, e2, hx⟩ := sees_int (q := .i64) (by kernel_rfl) s2
  simp at e e' e2
  subst e
  subst e'
  subst e2
  exact c7 (Nat.le_refl _) h5 h4 h1 h3 h7 k5 k4 k1 k3 k2 k7 k6 (wf_i64 hx)
end Go.Zt
