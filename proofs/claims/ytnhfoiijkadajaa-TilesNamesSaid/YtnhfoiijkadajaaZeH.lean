/- Layer 21: Order of the program c11 and of the document c12, walked; TilesTurns. -/
import Derived.Test.YtnhfoiijkadajaaZeG
import Derived.Test.YtnhfoiijkadajaaZeBd
import Derived.Test.YtnhfoiijkadajaaZsT
set_option linter.unusedSimpArgs false
set_option linter.unusedVariables false
namespace Go.Zt
open Go Go.Sim Go.Proofs Go.RowKit
def TfR (M0 : Mem) (q : List Int × Nat) : Value → Mem → Prop := fun v N =>
  ∃ A c, v = .tuple #[.slice A q.1.length c, .int .i64 (q.2 : Nat)] ∧ Keep M0 N ∧ Own (fun j => M0.nb.size ≤ j) N 3 A c (Ints q.1)
abbrev nats (u : List Nat) : List Int := u.map fun (t : Nat) => (t : Int)
theorem nats_at {u : List Nat} {i : Nat} (h : i < u.length) : (Ints (nats u))[i]? = some (.int .i64 (u[i] : Nat)) := by simp [h]
theorem tmod_two {x : Int} {n : Nat} (hn : 0 < n) : (x.tmod n + n).tmod n = brg x n := by
  obtain ⟨h1, h2⟩ := brg_tmod (x := x) (n := n) (by omega)
  have h3 : brg x n < n ∧ 0 ≤ brg x n := by
    unfold brg; rw [if_neg (by omega)]
    exact ⟨Int.emod_lt_of_pos _ (by omega), Int.emod_nonneg _ (by omega)⟩
  by_cases h : x.tmod n < 0
  · rw [h1 h, Int.tmod_eq_emod_of_nonneg h3.2, Int.emod_eq_of_lt h3.2 h3.1]
  · rw [h2 h, Int.tmod_eq_emod_of_nonneg (by omega), Int.add_emod_right, Int.emod_eq_of_lt h3.2 h3.1]
section
variable {M0 : Mem} {P Bl Bo Bu : Option Addr} {lp cp cl co cu w : Nat} {picks l o : List Int} {Q : Value → Mem → Prop}
theorem Od.own2 {M : Mem} {A1 A2 A3 : Option Addr} {c1 c2 c3 : Nat} {L1 L2 L3 : List Int} (h : Od M0 M A1 c1 L1 A2 c2 L2 A3 c3 L3) : Own (fun j => M0.nb.size ≤ j) M 3 A2 c2 (Ints L2) := by
  obtain ⟨K, S1, S2, S3, e, d1, d2, d3, o1, o2, o3⟩ := h
  exact o2.mono fun j _ hj => (e j (.inr (.inl hj))).1
theorem Od.drop3 {M : Mem} {A1 A2 A3 : Option Addr} {c1 c2 c3 : Nat} {L1 L2 L3 : List Int} (h : Od M0 M A1 c1 L1 A2 c2 L2 A3 c3 L3) : Od M0 M A1 c1 L1 A2 c2 L2 none 0 [] := by
  obtain ⟨K, S1, S2, S3, e, d1, d2, d3, o1, o2, o3⟩ := h
  exact ⟨K, S1, S2, fun _ => False, fun j hj => e j (by rcases hj with h | h | h <;> simp_all), d1, fun j _ h => h, fun j _ h => h, o1, o2, Own.empty⟩
theorem c11_fill (hf : M0.floor ≤ M0.nb.size) (hl : l.length ≤ 256)
    (hw : w ≤ 64) : ∀ (d nx : Nat) (Bu : Option Addr) (cu : Nat) {M : Mem}, nx + d = l.length → (U l nx).length ≤ w → Od M0 M Bl cl l Bo co o Bu cu (nats (U l nx)) →
    (∀ M Bu cu, Od M0 M Bl cl l Bo co o Bu cu (nats (U l (fillN w l d nx))) → A11_3 (w : Nat) P lp cp Bl l.length cl Bo o.length co Bu (U l (fillN w l d nx)).length cu (fillN w l d nx : Nat) false M Q) →
    A11_2 (w : Nat) P lp cp Bl l.length cl Bo o.length co Bu (U l nx).length cu (nx : Nat) M Q := by
  intro d
  induction d with
  | zero =>
    intro nx Bu cu M hd hu h hE
    refine w11_2 ⟨fun _ => ?_, fun _ => hE M Bu cu h⟩
    rw [show decide (((nx : Nat) : Int) < (l.length : Nat)) = false from decide_eq_false (by omega)]
    exact hE M Bu cu h
  | succ d ih =>
    intro nx Bu cu M hd hu h hE
    unfold fillN at hE
    by_cases hlt : (U l nx).length < w
    · rw [if_pos hlt] at hE
      refine w11_2 ⟨fun _ => ?_, fun hh => by omega⟩
      rw [show decide (((nx : Nat) : Int) < (l.length : Nat)) = true from decide_eq_true (by omega)]
      obtain ⟨a, i1, i2⟩ := h.r1.int1 (n := l.length) (i := nx) (z := (nx : Nat)) (k := .i64) (x := gx l nx) rfl (by omega) (gx_at (by omega))
      refine w11_3 ⟨fun _ => ⟨_, i1, _, i2, fun hp => ?_, fun hp => ?_⟩, fun hh => (by cases hh)⟩
      · have eu : U l (nx + 1) = U l nx ++ [nx] := by rw [U_succ, if_pos hp]
        obtain ⟨M', Bu', cu', g1, g2⟩ := h.rot.rot.app hf (n := (U l nx).length) (by simp) (by omega) (nx : Nat)
        refine ⟨_, g1, _, rfl, ?_⟩
        rw [i64w (by omega), show ((nx : Int) + 1) = ((nx + 1 : Nat) : Int) by omega]
        have := ih (nx + 1) Bu' cu' (M := M') (by omega) (by rw [eu]; simp; omega) (by rw [eu, nats, List.map_append]; exact g2.rot) hE
        rw [eu, List.length_append] at this
        exact this
      · have eu : U l (nx + 1) = U l nx := by rw [U_succ, if_neg hp]
        rw [i64w (by omega), show ((nx : Int) + 1) = ((nx + 1 : Nat) : Int) by omega]
        have := ih (nx + 1) Bu cu (M := M) (by omega) (by rw [eu]; exact hu) (by rw [eu]; exact h) hE
        rw [eu] at this
        exact this
    · rw [if_neg hlt] at hE
      exact w11_2 ⟨fun hh => by omega, fun _ => hE M Bu cu h⟩
theorem c11_1 (hf : M0.floor ≤ M0.nb.size) (hw : 1 ≤ w ∧ w ≤ 64) (hP : Row M0 P (Ints picks)) (hlp : lp = picks.length) :
    ∀ (m : Nat) (l o : List Int) (k nx : Nat) (Bl Bo Bu : Option Addr) (cl co cu : Nat) {M : Mem}, l.length ≤ 256 → Ts w l m nx → o.length = k → k + m ≤ 65536 → Od M0 M Bl cl l Bo co o Bu cu (nats (U l nx)) →
    A11_1 (w : Nat) P lp cp Bl l.length cl Bo o.length co Bu (U l nx).length cu (nx : Nat) M (TfR M0 (o ++ runP w picks m l k nx, 0)) := by
  intro m
  induction m with
  | zero =>
    intro l o k nx Bl Bo Bu cl co cu M hl hT hk hkm h
    have hle := hT.le
    refine w11_1 (c11_fill hf hl hw.2 (l.length - nx) nx Bu cu (by omega) hT.u h fun M Bu cu h => ?_)
    have h0 := (hT.none (by omega)).2 rfl
    have e : fillN w l (l.length - nx) nx = nxT w l nx := rfl
    rw [e, h0]
    refine w11_3 ⟨fun hh => (by cases hh), fun _ => ⟨fun _ => ?_, fun hh => absurd rfl hh⟩⟩
    unfold runP
    rw [List.append_nil]
    exact ⟨Bo, co, rfl, h.keep, h.own2⟩
  | succ m ih =>
    intro l o k nx Bl Bo Bu cl co cu M hl hT hk hkm h
    have hle := hT.le
    refine w11_1 (c11_fill hf hl hw.2 (l.length - nx) nx Bu cu (by omega) hT.u h fun M Bu cu h => ?_)
    have e : fillN w l (l.length - nx) nx = nxT w l nx := rfl
    rw [e] at h ⊢
    obtain ⟨a1, a2, a3, a4⟩ := hT.fill
    have hne : (U l (nxT w l nx)).length ≠ 0 := fun hh => by have := (hT.none (by omega)).1 hh; omega
    have hu : 0 < (U l (nxT w l nx)).length := by omega
    have hpl := pick_lt (picks := picks) (k := k) hu
    have er := runP_succ w picks m l k nx
    generalize hpp : pickT picks k (U l (nxT w l nx)).length = p at *
    have et : (U l (nxT w l nx)).getD p 0 = (U l (nxT w l nx))[p] := by rw [List.getD_eq_getElem?_getD, List.getElem?_eq_getElem hpl]; rfl
    rw [et] at er
    have hm := U_mem.1 (List.getElem_mem hpl)
    have ud := U_dec hpl a2
    have hT' := hT.next hpl
    have hat := nats_at hpl
    generalize hU : U l (nxT w l nx) = u at *
    generalize ht : u[p] = t at *
    have htl : t < l.length := by omega
    have hsum := hT.le_sum t
    rw [er, List.append_cons]
    have go : ∀ z : Int, z = (p : Nat) →
       ∃ a19', idxA Bu u.length 1 z = some a19' ∧
       ∃ x20', M.intAt .i64 a19'.block a19'.off = some x20' ∧
       ∃ r21', appendP Try.prog #[22, 22] (.slice Bo o.length co) (.slice (some ⟨2 * M.nb.size, 0, none⟩) 1 1) (M.new (.cells #[.int .i64 x20'] 3)) = some r21' ∧
       ∃ s22', asS r21'.1 = some s22' ∧
       ∃ a23', idxA Bl l.length 1 x20' = some a23' ∧
       ∃ x24', r21'.2.intAt .i64 a23'.block a23'.off = some x24' ∧
       ∃ a25', idxA Bl l.length 1 x20' = some a25' ∧
       ∃ M26', r21'.2.put a25'.block a25'.off (.int .i64 (IntKind.i64.wrap (x24' - 1))) = some M26' ∧
       ∃ a27', idxA Bl l.length 1 x20' = some a27' ∧
       ∃ x28', M26'.intAt .i64 a27'.block a27'.off = some x28' ∧
       ((x28' > 0 →
        A11_1 (w : Nat) P lp cp Bl l.length cl s22'.1 s22'.2.1 s22'.2.2 Bu u.length cu (nxT w l nx : Nat) M26' (TfR M0 (o ++ [(t : Int)] ++ runP w picks m (decT l t) (k + 1) (nxT w l nx), 0))) ∧
        (¬ (x28' > 0) →
        Cn Try.prog 30 #[.slice Bu u.length cu, .int .i64 z, .int .i64 (IntKind.i64.wrap (z + 1))] M26' fun v29' N29' =>
         ∃ s30', asS v29' = some s30' ∧
         A11_1 (w : Nat) P lp cp Bl l.length cl s22'.1 s22'.2.1 s22'.2.2 s30'.1 s30'.2.1 s30'.2.2 (nxT w l nx : Nat) N29' (TfR M0 (o ++ [(t : Int)] ++ runP w picks m (decT l t) (k + 1) (nxT w l nx), 0)))) := by
      rintro z rfl
      obtain ⟨a, i1, i2⟩ := h.rot.rot.r1.int1 (n := u.length) (i := p) (z := (p : Nat)) (k := .i64) (x := (t : Nat)) rfl hpl hat
      obtain ⟨M1, Bo', co', g1, g2⟩ := h.rot.app hf (n := o.length) rfl (by omega) (t : Nat)
      have h1 := g2.rot.rot
      obtain ⟨b, j1, j2⟩ := h1.r1.int1 (n := l.length) (i := t) (z := (t : Nat)) (k := .i64) (x := gx l t) rfl htl (gx_at htl)
      obtain ⟨q, q1, M2, q2, h2⟩ := h1.put hf (n := l.length) (i := t) rfl htl (gx l t - 1)
      have h2 : Od M0 M2 Bl cl (decT l t) Bo' co' (o ++ [(t : Int)]) Bu cu (nats u) := h2
      obtain ⟨b', j3, j4⟩ := h2.r1.int1 (n := l.length) (i := t) (z := (t : Nat)) (k := .i64) (x := gx l t - 1) rfl htl (by
        have := gx_at (x := decT l t) (i := t) (by rw [dec_len]; exact htl)
        rw [dec_at htl, if_pos rfl] at this; exact this)
      have ih' := fun (Bu : Option Addr) (cu : Nat) (M : Mem) h => ih (decT l t) (o ++ [(t : Int)]) (k + 1) (nxT w l nx) Bl Bo' Bu cl co' cu (M := M) (by rw [dec_len]; exact hl) hT' (by simp [hk]) (by omega) h
      rw [dec_len, List.length_append] at ih'
      refine ⟨_, i1, _, i2, _, g1, _, rfl, _, j1, _, j2, _, q1, M2, by rw [i64w (by omega)]; exact q2, _, j3, _, j4, fun hp => ?_, fun hp => ?_⟩
      · rw [if_pos hp] at ud
        rw [ud] at ih'
        exact ih' Bu cu M2 h2
      · rw [if_neg hp] at ud
        rw [ud] at ih'
        rw [i64w (by omega), show ((p : Int) + 1) = ((p + 1 : Nat) : Int) by omega]
        refine h2.rot.rot.del hf (n := u.length) (by simp) hpl (by omega) fun A' N hN => ⟨_, rfl, ?_⟩
        have en : (nats u).eraseIdx p = nats (u.eraseIdx p) := by unfold nats; rw [List.eraseIdx_eq_take_drop_succ, List.eraseIdx_eq_take_drop_succ, List.map_append, List.map_take, List.map_drop]
        rw [en] at hN ⊢
        have := ih' A' cu N hN.rot
        rw [show (nats (u.eraseIdx p)).length = (u.eraseIdx p).length by simp]
        exact this
    refine w11_3 ⟨fun hh => (by cases hh), fun _ => ⟨fun hh => by omega, fun _ => ⟨fun hk2 => ?_, fun hk2 => ?_⟩⟩⟩
    · obtain ⟨a, i1, i2⟩ := (hP.keep h.keep).int1 (n := lp) (i := k) (z := (o.length : Nat)) (k := .i64) (x := gx picks k) (by omega) (by omega) (gx_at (by omega))
      have e1 : pickT picks k u.length = (brg (gx picks k) (u.length : Nat)).toNat := by unfold pickT; rw [if_pos (by omega)]
      have hb : brg (gx picks k) (u.length : Nat) = (p : Nat) := by
        have h3 : 0 ≤ brg (gx picks k) (u.length : Nat) := by
          unfold brg; rw [if_neg (by omega)]
          exact Int.emod_nonneg _ (by omega)
        omega
      have htm := tmod_two (x := gx picks k) hu
      have hrng : -((u.length : Nat) : Int) ≤ (gx picks k).tmod (u.length : Nat) ∧ (gx picks k).tmod (u.length : Nat) < (u.length : Nat) := by
        obtain ⟨g1, g2⟩ := brg_tmod (x := gx picks k) (n := (u.length : Nat)) (by omega)
        by_cases hh : (gx picks k).tmod (u.length : Nat) < 0
        · have := g1 hh; omega
        · have := g2 hh; omega
      refine ⟨_, i1, _, i2, _, binV_rem (by omega), _, rfl, _, binV_rem (by omega), _, rfl, ?_⟩
      refine go _ ?_
      rw [i64w (by omega), htm, hb]
    · have e1 : pickT picks k u.length = 0 := by unfold pickT; rw [if_neg (by omega)]
      exact go 0 (by omega)
end
theorem c11 {M0 : Mem} (hf : M0.floor ≤ M0.nb.size) {A P : Option Addr} {n c lp cp : Nat} {l picks : List Int} {w : Int} (hA : Row M0 A (Ints l)) (hn : n = l.length) (hP : Row M0 P (Ints picks)) (hlp : lp = picks.length) :
    Cn Try.prog 11 #[.slice A n c, .int .i64 w, .slice P lp cp] M0 (TfR M0 (ordS l w picks)) := by
  refine w11_0 (Cn.eq (c28 hA hn) ⟨_, rfl, _, rfl, _, rfl, fun he => ?_, fun he => ?_⟩)
  · unfold ordS; rw [if_neg (by omega)]
    exact ⟨none, 0, rfl, .refl _, Own.empty⟩
  have h0 : ordE l w = 0 := by omega
  unfold ordS; rw [if_pos h0]
  have hl : l.length ≤ 256 := by
    rcases Nat.lt_or_ge 256 l.length with h | h
    · unfold ordE at h0; rw [if_pos h] at h0; omega
    · exact h
  have hall : l.all (fun v => decide (0 ≤ v)) = true := by
    cases ha : l.all (fun v => decide (0 ≤ v)) with
    | true => rfl
    | false => unfold ordE at h0; rw [if_neg (by omega), if_pos ha] at h0; omega
  have hsum : sumN (gx l) l.length ≤ 65536 := by
    rcases Int.lt_or_le 65536 (sumN (gx l) l.length) with h | h
    · unfold ordE at h0; rw [if_neg (by omega), if_neg (by rw [hall]; decide), if_pos h] at h0; omega
    · exact h
  have hw : 1 ≤ w ∧ w ≤ 64 := by
    by_cases h : 1 ≤ w ∧ w ≤ 64
    · exact h
    · unfold ordE at h0; rw [if_neg (by omega), if_neg (by rw [hall]; decide), if_neg (by omega), if_neg h] at h0; omega
  have hs0 := (sum_nn (f := gx l) (n := l.length) fun i _ => of_all hall i).1
  refine Cn.mono (c29 hf hA hn (by omega)) ?_
  rintro _ N1 ⟨B, d, rfl, K1, O1⟩
  rw [if_pos h0, hn]
  obtain ⟨m, hm⟩ := Int.eq_ofNat_of_zero_le hs0
  obtain ⟨C, N2, g1, g2, g3, g4⟩ := make_own em22 (S := fun j => N1.nb.size ≤ j) (M := N1) (k := .i64) (k' := .i64) (l := 0) (c := sumN (gx l) l.length) (Int.le_refl _) hs0 (by omega) (Nat.le_refl _)
  refine ⟨_, rfl, _, g1, _, rfl, ?_⟩
  obtain ⟨w', rfl⟩ := Int.eq_ofNat_of_zero_le (show 0 ≤ w by omega)
  have K2 : Keep N1 N2 := Keep.step (.refl _) g2 fun j hj => hj
  have g4' : Own (fun j => N1.nb.size ≤ j) N2 3 C (sumN (gx l) l.length).toNat (Ints []) := g4
  have od : Od M0 N2 B d l C (sumN (gx l) l.length).toNat [] none 0 (nats (U l 0)) :=
    ⟨K1.trans K2, fun j => M0.nb.size ≤ j ∧ j < N1.nb.size, fun j => N1.nb.size ≤ j ∧ j < N2.nb.size, fun _ => False, fun j hj => by
      have s1 := K1.size
      have s2 := K2.size
      rcases hj with h | h | h
      · exact ⟨h.1, by omega⟩
      · exact ⟨by omega, h.2⟩
      · exact h.elim, fun j h1 h2 => by omega, fun j _ h => h, fun j _ h => h, (O1.mono fun j hl hj => ⟨hj, hl⟩).chg K2 fun _ _ _ h => h, g4'.mono fun j hl hj => ⟨hj, hl⟩, Own.empty⟩
  have ts : Ts w' l m 0 := ⟨of_all hall, hm, Nat.zero_le _, Nat.zero_le _⟩
  have := c11_1 (P := P) (lp := lp) (cp := cp) hf (w := w') (by omega) hP hlp m l [] 0 0 B C none d (sumN (gx l) l.length).toNat 0 (M := N2) hl ts rfl (by omega) od
  rw [List.nil_append] at this
  rw [hm] at this ⊢
  exact this
end Go.Zt
