/- Layer 21: Order of the document c12, walked; TilesTurns. -/
import Derived.Test.YtnhfoiijkadajaaZeH
set_option linter.unusedSimpArgs false
set_option linter.unusedVariables false
namespace Go.Zt
open Go Go.Sim Go.Proofs Go.RowKit
section
variable {M0 : Mem} {P Bl Bo Bu : Option Addr} {lp cp cl co cu w : Nat} {picks l o : List Int} {Q : Value → Mem → Prop}
theorem c12_4 (hf : M0.floor ≤ M0.nb.size) (hl : l.length ≤ 256) (hw : w ≤ 64) {x8 : Int} {R : Value → Mem → Prop}
    (hE : ∀ M Bu cu, Od M0 M Bl cl l Bo co o Bu cu (nats ((U l l.length).take w)) → A12_4 (w : Nat) P lp cp x8 Bl l.length cl Bo o.length co Bu ((U l l.length).take w).length cu (l.length : Nat) M R) :
    ∀ (m i : Nat) (Bu : Option Addr) (cu : Nat) {M : Mem}, i + m = l.length → Od M0 M Bl cl l Bo co o Bu cu (nats ((U l i).take w)) →
    A12_4 (w : Nat) P lp cp x8 Bl l.length cl Bo o.length co Bu ((U l i).take w).length cu (i : Nat) M R := by
  intro m
  induction m with
  | zero =>
    intro i Bu cu M hi h
    obtain rfl : l.length = i := by omega
    exact hE M Bu cu h
  | succ m ih =>
    intro i Bu cu M hi h
    obtain ⟨a, i1, i2⟩ := h.r1.int1 (n := l.length) (i := i) (z := (i : Nat)) (k := .i64) (x := gx l i) rfl (by omega) (gx_at (by omega))
    have tl : ((U l i).take w).length ≤ w := by rw [List.length_take]; omega
    have same : (U l (i + 1)).take w = (U l i).take w → A12_6 (w : Nat) P lp cp x8 Bl l.length cl Bo o.length co Bu ((U l i).take w).length cu (i : Nat) M R := by
      intro e
      refine w12_6 ?_
      rw [i64w (by omega), show ((i : Int) + 1) = ((i + 1 : Nat) : Int) by omega]
      have := ih (i + 1) Bu cu (M := M) (by omega) (by rw [e]; exact h)
      rw [e] at this; exact this
    refine w12_4 ⟨fun _ => ⟨_, i1, _, i2, fun hp => ?_, fun hp => ?_⟩, fun hh => by omega⟩
    · by_cases hlt : ((U l i).take w).length < w
      · have hfull : (U l i).take w = U l i := by
          rw [List.length_take] at hlt
          exact List.take_of_length_le (by omega)
        have e : (U l (i + 1)).take w = (U l i).take w ++ [i] := by
          rw [U_succ, if_pos hp, hfull, List.take_of_length_le]
          rw [hfull] at hlt; simp; omega
        rw [show decide (((((U l i).take w).length : Nat) : Int) < (w : Nat)) = true from decide_eq_true (by omega)]
        obtain ⟨M', Bu', cu', g1, g2⟩ := h.rot.rot.app hf (n := ((U l i).take w).length) (by simp) (by omega) (i : Nat)
        refine w12_5 ⟨fun _ => ⟨_, g1, _, rfl, w12_6 ?_⟩, fun hh => (by cases hh)⟩
        rw [i64w (by omega), show ((i : Int) + 1) = ((i + 1 : Nat) : Int) by omega]
        have := ih (i + 1) Bu' cu' (M := M') (by omega) (by rw [e, nats, List.map_append]; exact g2.rot)
        rw [e, List.length_append] at this
        exact this
      · rw [show decide (((((U l i).take w).length : Nat) : Int) < (w : Nat)) = false from decide_eq_false (by omega)]
        refine w12_5 ⟨fun hh => (by cases hh), fun _ => same ?_⟩
        rw [U_succ, if_pos hp, List.take_append_of_le_length]
        rw [List.length_take] at hlt; omega
    · refine w12_5 ⟨fun hh => (by cases hh), fun _ => same ?_⟩
      rw [U_succ, if_neg hp]
theorem c12_3 (hf : M0.floor ≤ M0.nb.size) (hw : 1 ≤ w ∧ w ≤ 64) (hP : Row M0 P (Ints picks)) (hlp : lp = picks.length) {x8 : Int} :
    ∀ (m : Nat) (l o : List Int) (k nx : Nat) (Bl Bo : Option Addr) (cl co : Nat) {M : Mem}, l.length ≤ 256 → Ts w l m nx → o.length = k → k + m ≤ 65536 → x8 = ((k + m : Nat) : Int) → Od M0 M Bl cl l Bo co o none 0 [] →
    A12_3 (w : Nat) P lp cp x8 Bl l.length cl Bo o.length co M (TfR M0 (o ++ runP w picks m l k nx, 0)) := by
  intro m
  induction m with
  | zero =>
    intro l o k nx Bl Bo cl co M hl hT hk hkm h8 h
    refine w12_3 ⟨fun hh => by omega, fun _ => ?_⟩
    unfold runP
    rw [List.append_nil]
    exact ⟨Bo, co, rfl, h.keep, h.own2⟩
  | succ m ih =>
    intro l o k nx Bl Bo cl co M hl hT hk hkm h8 h
    refine w12_3 ⟨fun _ => ?_, fun hh => by omega⟩
    have start := c12_4 (P := P) (lp := lp) (cp := cp) (x8 := x8) (Bl := Bl) (Bo := Bo) (cl := cl) (co := co) (l := l) (o := o) (R := TfR M0 (o ++ runP w picks (m + 1) l k nx, 0)) hf hl hw.2 (fun M Bu cu h => ?_) l.length 0 none 0 (M := M) (Nat.zero_add _) (by rw [show (U l 0).take w = [] by simp [U]]; exact h)
    · rw [show (U l 0).take w = [] by simp [U]] at start
      exact start
    have e := U_take hT
    rw [e] at h ⊢
    obtain ⟨a1, a2, a3, a4⟩ := hT.fill
    have hne : (U l (nxT w l nx)).length ≠ 0 := fun hh => by have := (hT.none (by omega)).1 hh; omega
    have hu : 0 < (U l (nxT w l nx)).length := by omega
    have hpl := pick_lt (picks := picks) (k := k) hu
    have er := runP_succ w picks m l k nx
    generalize hpp : pickT picks k (U l (nxT w l nx)).length = p at *
    have et : (U l (nxT w l nx)).getD p 0 = (U l (nxT w l nx))[p] := by rw [List.getD_eq_getElem?_getD, List.getElem?_eq_getElem hpl]; rfl
    rw [et] at er
    have hm := U_mem.1 (List.getElem_mem hpl)
    have hT' := hT.next hpl
    have hat := nats_at hpl
    generalize hU : U l (nxT w l nx) = u at *
    generalize ht : u[p] = t at *
    have htl : t < l.length := by omega
    have hsum := hT.le_sum t
    rw [er, List.append_cons]
    have go : ∀ z : Int, z = (p : Nat) →
       ∃ a13', idxA Bu u.length 1 z = some a13' ∧
       ∃ x14', M.intAt .i64 a13'.block a13'.off = some x14' ∧
       ∃ a15', idxA Bu u.length 1 z = some a15' ∧
       ∃ x16', M.intAt .i64 a15'.block a15'.off = some x16' ∧
       ∃ a17', idxA Bl l.length 1 x16' = some a17' ∧
       ∃ x18', M.intAt .i64 a17'.block a17'.off = some x18' ∧
       ∃ a19', idxA Bl l.length 1 x14' = some a19' ∧
       ∃ M20', M.put a19'.block a19'.off (.int .i64 (IntKind.i64.wrap (x18' - 1))) = some M20' ∧
       ∃ a21', idxA Bu u.length 1 z = some a21' ∧
       ∃ x22', M20'.intAt .i64 a21'.block a21'.off = some x22' ∧
       ∃ r23', appendP Try.prog #[22, 22] (.slice Bo o.length co) (.slice (some ⟨2 * M20'.nb.size, 0, none⟩) 1 1) (M20'.new (.cells #[.int .i64 x22'] 3)) = some r23' ∧
       ∃ s24', asS r23'.1 = some s24' ∧
       A12_3 (w : Nat) P lp cp x8 Bl l.length cl s24'.1 s24'.2.1 s24'.2.2 r23'.2 (TfR M0 (o ++ [(t : Int)] ++ runP w picks m (decT l t) (k + 1) (nxT w l nx), 0)) := by
      rintro z rfl
      obtain ⟨a, i1, i2⟩ := h.rot.rot.r1.int1 (n := u.length) (i := p) (z := (p : Nat)) (k := .i64) (x := (t : Nat)) rfl hpl hat
      obtain ⟨b, j1, j2⟩ := h.r1.int1 (n := l.length) (i := t) (z := (t : Nat)) (k := .i64) (x := gx l t) rfl htl (gx_at htl)
      obtain ⟨q, q1, M2, q2, h2⟩ := h.put hf (n := l.length) (i := t) rfl htl (gx l t - 1)
      have h2 : Od M0 M2 Bl cl (decT l t) Bo co o Bu cu (nats u) := h2
      obtain ⟨a', i3, i4⟩ := h2.rot.rot.r1.int1 (n := u.length) (i := p) (z := (p : Nat)) (k := .i64) (x := (t : Nat)) rfl hpl hat
      obtain ⟨M1, Bo', co', g1, g2⟩ := h2.rot.app hf (n := o.length) rfl (by omega) (t : Nat)
      have ih' := ih (decT l t) (o ++ [(t : Int)]) (k + 1) (nxT w l nx) Bl Bo' cl co' (M := M1) (by rw [dec_len]; exact hl) hT' (by simp [hk]) (by omega) (by omega) g2.rot.rot.drop3
      rw [dec_len, List.length_append] at ih'
      exact ⟨_, i1, _, i2, _, i1, _, i2, _, j1, _, j2, _, q1, M2, by rw [i64w (by omega)]; exact q2, _, i3, _, i4, _, g1, _, rfl, ih'⟩
    refine w12_4 ⟨fun hh => by omega, fun _ => ⟨fun hk2 => ?_, fun hk2 => ?_⟩⟩
    · obtain ⟨a, i1, i2⟩ := (hP.keep h.keep).int1 (n := lp) (i := k) (z := (o.length : Nat)) (k := .i64) (x := gx picks k) (by omega) (by omega) (gx_at (by omega))
      have e1 : pickT picks k u.length = (brg (gx picks k) (u.length : Nat)).toNat := by unfold pickT; rw [if_pos (by omega)]
      have hb : brg (gx picks k) (u.length : Nat) = (p : Nat) := by
        have h3 : 0 ≤ brg (gx picks k) (u.length : Nat) := by
          unfold brg; rw [if_neg (by omega)]
          exact Int.emod_nonneg _ (by omega)
        omega
      exact ⟨_, i1, _, i2, Cn.eq (c15 (by omega)) ⟨_, rfl, go _ hb⟩⟩
    · have e1 : pickT picks k u.length = 0 := by unfold pickT; rw [if_neg (by omega)]
      exact go 0 (by omega)
theorem c12_1 (hf : M0.floor ≤ M0.nb.size) {A : Option Addr} {n c : Nat} {x1 : Int} (hA : Row M0 A (Ints l)) (hn : n = l.length) (hb : n ≤ 256) (hP : Row M0 P (Ints picks)) (hlp : lp = picks.length) :
    ∀ (m i : Nat), i + m = n → (∀ k, k < i → 0 ≤ gx l k) → A12_1 A n c x1 P lp cp (sumN (oneN l 1048576) i) (i : Nat) M0 (TfR M0 (ordS l x1 picks)) := by
  intro m
  induction m with
  | zero =>
    intro i hi hp
    obtain rfl : n = i := by omega
    obtain ⟨h1, h2, h3, h4, h5⟩ := sum_one (l := l) (c := 1048576) (by decide) n hp
    have ha := pos_all (l := l) fun i h => hp i (by omega)
    have eo : ordE l x1 = if 65536 < sumN (gx l) n then 7 else if 1 ≤ x1 ∧ x1 ≤ 64 then 0 else 2 := by
      unfold ordE; rw [if_neg (by omega), if_neg (by rw [ha]; decide), ← hn]
    have bad : ∀ e, ordE l x1 = e → e ≠ 0 → TfR M0 (ordS l x1 picks) (.tuple #[.slice none 0 0, .int .i64 (e : Nat)]) M0 := by
      rintro e rfl he
      unfold ordS; rw [if_neg he]
      exact ⟨none, 0, rfl, .refl _, Own.empty⟩
    refine w12_1 ⟨fun h => by omega, fun _ => ⟨fun h7 => ?_, fun h7 => ?_⟩⟩
    · rw [if_pos (by omega)] at eo
      exact bad 7 eo (by decide)
    · rw [if_neg (by omega)] at eo
      have two : ¬ (1 ≤ x1 ∧ x1 ≤ 64) → A12_2 A n c x1 P lp cp (sumN (oneN l 1048576) n) true M0 (TfR M0 (ordS l x1 picks)) := fun hh => by
        rw [if_neg hh] at eo
        exact w12_2 ⟨fun _ => bad 2 eo (by decide), fun h => (by cases h)⟩
      refine ⟨fun hx => two (by omega), fun hx => ?_⟩
      by_cases h64 : x1 > 64
      · rw [decide_eq_true h64]; exact two (by omega)
      · rw [decide_eq_false h64]
        rw [if_pos (by omega)] at eo
        unfold ordS; rw [if_pos eo]
        refine w12_2 ⟨fun h => (by cases h), fun _ => Cn.mono (c10 hf hA hn (by omega)) ?_⟩
        rintro _ N1 ⟨B, d, rfl, K1, O1⟩
        refine ⟨_, rfl, ?_⟩
        have hs0 := (sum_nn (f := gx l) (n := l.length) fun i hi => hp i (by omega)).1
        obtain ⟨m, hm⟩ := Int.eq_ofNat_of_zero_le hs0
        obtain ⟨w', rfl⟩ := Int.eq_ofNat_of_zero_le (show 0 ≤ x1 by omega)
        have em : sumN (gx l) n = m := by rw [hn]; exact hm
        have hall : ∀ i, 0 ≤ gx l i := of_all ha
        have ts : Ts w' l m 0 := ⟨hall, hm, Nat.zero_le _, Nat.zero_le _⟩
        have od : Od M0 N1 B d l none 0 [] none 0 [] := ⟨K1, fun j => M0.nb.size ≤ j ∧ j < N1.nb.size, fun _ => False, fun _ => False, fun j hj => by
          rcases hj with h | h | h
          · exact h
          · exact h.elim
          · exact h.elim, fun j _ h => h, fun j _ h => h, fun j _ h => h, O1.mono fun j hl hj => ⟨hj, hl⟩, Own.empty, Own.empty⟩
        have := c12_3 (P := P) (lp := lp) (cp := cp) (picks := picks) hf (w := w') (by omega) hP hlp (x8 := sumN (oneN l 1048576) n) m l [] 0 0 B none d 0 (M := N1) (by omega) ts rfl (by omega) (by rw [h4 (by omega), hn, hm]; simp) od
        rw [List.nil_append] at this
        rw [hm]
        exact this
  | succ m ih =>
    intro i hi hp
    obtain ⟨a, i1, i2⟩ := hA.int1 (n := n) (i := i) (z := i) (k := .i64) (x := gx l i) rfl (by omega) (gx_at (by omega))
    obtain ⟨h1, h2, h3, h4, h5⟩ := sum_one (l := l) (c := 1048576) (by decide) i hp
    refine w12_1 ⟨fun _ => ⟨_, i1, _, i2, fun hneg => ?_, fun hneg => ⟨_, i1, _, i2, ?_⟩⟩, fun h => by omega⟩
    · have eo : ordE l x1 = 2 := by
        unfold ordE; rw [if_neg (by omega), if_pos (neg_all (by omega) hneg)]
      unfold ordS; rw [if_neg (by omega), eo]
      exact ⟨none, 0, rfl, .refl _, Own.empty⟩
    · have e1 : sumN (oneN l 1048576) i + (if 1048576 < gx l i then 1048576 else gx l i) = sumN (oneN l 1048576) (i + 1) := rfl
      have hp' : ∀ k, k < i + 1 → 0 ≤ gx l k := fun k hk => by
        rcases Nat.lt_or_ge k i with h | h
        · exact hp k h
        · obtain rfl : k = i := by omega
          omega
      obtain ⟨k1, _, k3, _⟩ := sum_one (l := l) (c := 1048576) (by decide) (i + 1) hp'
      rw [e1, i64w (by omega), i64w (by omega), show ((i : Int) + 1) = ((i + 1 : Nat) : Int) by omega]
      exact ih (i + 1) (by omega) hp'
theorem c12 (hf : M0.floor ≤ M0.nb.size) {A : Option Addr} {n c : Nat} {x1 : Int} (hA : Row M0 A (Ints l)) (hn : n = l.length) (hP : Row M0 P (Ints picks)) (hlp : lp = picks.length) :
    Cn Try.prog 12 #[.slice A n c, .int .i64 x1, .slice P lp cp] M0 (TfR M0 (ordS l x1 picks)) := by
  refine w12_0 ⟨fun h => ?_, fun h => c12_1 hf hA hn (by omega) hP hlp n 0 (Nat.zero_add _) fun k hk => by omega⟩
  have eo : ordE l x1 = 7 := by unfold ordE; rw [if_pos (by omega)]
  unfold ordS; rw [if_neg (by omega), eo]
  exact ⟨none, 0, rfl, .refl _, Own.empty⟩
end
theorem c14 {M : Mem} : Cn Try.prog 14 #[] M fun v N => v = .bool true ∧ N = M := Cn.known rfl ⟨rfl, rfl⟩
theorem ordS_len (l : List Int) (w : Int) (picks : List Int) : (ordS l w picks).1.length ≤ 65536 := by
  unfold ordS
  split
  · rename_i h0
    rw [runP_len]
    have hl : l.length ≤ 256 := by
      rcases Nat.lt_or_ge 256 l.length with h | h
      · unfold ordE at h0; rw [if_pos h] at h0; omega
      · exact h
    have hall : l.all (fun v => decide (0 ≤ v)) = true := by
      cases ha : l.all (fun v => decide (0 ≤ v)) with
      | true => rfl
      | false => unfold ordE at h0; rw [if_neg (by omega), if_pos ha] at h0; omega
    have hs0 := (sum_nn (f := gx l) (n := l.length) fun i _ => of_all hall i).1
    rcases Int.lt_or_le 65536 (sumN (gx l) l.length) with h | h
    · unfold ordE at h0; rw [if_neg (by omega), if_neg (by rw [hall]; decide), if_pos h] at h0; omega
    · omega
  · simp
theorem c3 {M : Mem} (hf : M.floor ≤ M.nb.size) {A P : Option Addr} {n c lp cp : Nat} {l picks : List Int} {w : Int} (hA : Row M A (Ints l)) (hn : n = l.length) (hb : n ≤ 1048576) (hP : Row M P (Ints picks)) (hlp : lp = picks.length) (hb2 : lp ≤ 1048576) :
    Cn Try.prog 3 #[.slice A n c, .int .i64 w, .slice P lp cp] M fun v N => v = .bool true ∧ Keep M N := by
  refine w3_0 (Cn.mono (c10 hf hA hn hb) ?_)
  rintro _ N1 ⟨X, cx, rfl, K1, O1⟩
  refine ⟨_, rfl, Cn.mono (c10 (fb hf K1) (hP.keep K1) hlp hb2) ?_⟩
  rintro _ N2 ⟨Y, cy, rfl, K2, O2⟩
  have K02 := K1.trans K2
  refine ⟨_, rfl, Cn.mono (c11 (w := w) (l := l) (picks := picks) (fb hf K02) (O1.row.keep K2) rfl O2.row rfl) ?_⟩
  have hl := ordS_len l w picks
  have t12 := fun (M : Mem) (hf : M.floor ≤ M.nb.size) (hA : Row M A (Ints l)) (hP : Row M P (Ints picks)) => c12 (x1 := w) (c := c) (cp := cp) hf hA hn hP hlp
  intro v3 N3 h3
  generalize ordS l w picks = q at hl h3 t12
  obtain ⟨a, e⟩ := q
  obtain ⟨A3, c3, rfl, K3, O3⟩ := h3
  have K03 := K02.trans K3
  refine ⟨_, rfl, _, rfl, _, rfl, Cn.mono (t12 _ (fb hf K03) (hA.keep K03) (hP.keep K03)) ?_⟩
  rintro _ N4 ⟨A4, c4, rfl, K4, O4⟩
  refine ⟨_, rfl, _, rfl, _, rfl, fun _ => ?_, fun h => absurd rfl h⟩
  have K24 := K3.trans K4
  refine Cn.eq (c13 (l := a) (l' := a) (n := a.length) (m := a.length) (O3.row.keep K4) O4.row rfl rfl (by dsimp only at hl; omega)) ⟨_, rfl, w3_1 ⟨fun _ => ?_, fun h => (by simp at h)⟩⟩
  refine Cn.eq (c13 (l := l) (l' := l) (n := l.length) ((O1.row.keep K2).keep K24) (hA.keep (K02.trans K24)) rfl hn (by omega)) ⟨_, rfl, w3_2 ⟨fun _ => ?_, fun h => (by simp at h)⟩⟩
  refine Cn.eq (c13 (l := picks) (l' := picks) (n := picks.length) (O2.row.keep K24) (hP.keep (K02.trans K24)) rfl hlp (by omega)) ⟨_, rfl, w3_3 ⟨fun _ => ?_, fun h => (by simp at h)⟩⟩
  exact Cn.eq c14 ⟨_, rfl, rfl, K02.trans K24⟩
end Go.Zt
