/- Layer 19: lists compared and written over; UnitsSplits. -/
import Derived.Test.YtbbdggpfhcgbpaaZcO
import Derived.Test.YtbbdggpfhcgbpaaZcDb
set_option linter.unusedSimpArgs false
set_option linter.unusedVariables false
namespace Go.Zt
open Go Go.Sim Go.Proofs Go.RowKit

theorem c13_loop {M : Mem} {A B : Option Addr} {l l' : List Ob} (hA : ObR M A l) (hB : ObR M B l') {n m c d : Nat} (hn : n = l.length) (hm : m = l'.length) (hl : l.length = l'.length) (hb : n ≤ 4611686018427387904) (hbb : ∀ o ∈ l, o.b.length ≤ 4611686018427387904) {Q : Value → Mem → Prop} :
    ∀ (k i : Nat), i + k = n → Q (.bool (decide ((l.drop i).map Ob.pc = (l'.drop i).map Ob.pc))) M → A13_1 A n c B m d i M Q
  | 0, i, hi, hQ => by
    refine w13_1 ⟨fun h => by omega, fun _ => ?_⟩
    have e : decide ((l.drop i).map Ob.pc = (l'.drop i).map Ob.pc) = true := by
      rw [List.drop_of_length_le (by omega), List.drop_of_length_le (by omega)]; simp
    rw [e] at hQ; exact hQ
  | k + 1, i, hi, hQ => by
    have h1 : i < l.length := by omega
    have h2 : i < l'.length := by omega
    obtain ⟨a, i1, i2, i3⟩ := hA.at (n := n) (z := i) rfl (by omega) h1
    obtain ⟨a', j1, j2, j3⟩ := hB.at (n := m) (z := i) rfl (by omega) h2
    have hd1 := List.drop_eq_getElem_cons h1
    have hd2 := List.drop_eq_getElem_cons h2
    have no : l[i].pc ≠ l'[i].pc → A13_2 A n c B m d i true M Q := fun hne => by
      have e : decide ((l.drop i).map Ob.pc = (l'.drop i).map Ob.pc) = false := decide_eq_false fun e => hne (by
        rw [hd1, hd2] at e
        exact (List.cons.inj e).1)
      rw [e] at hQ
      exact w13_2 ⟨fun _ => hQ, fun h => (by cases h)⟩
    refine w13_1 ⟨fun _ => ⟨_, i1, _, i2, _, j1, _, j2, fun hne => no fun e => hne (congrArg Prod.fst e), fun he => ⟨_, i1, _, i3, _, j1, _, j3, ?_⟩⟩, fun h => by omega⟩
    refine Cn.eq (c15 (hA.2 _ (List.getElem_mem h1)) (hB.2 _ (List.getElem_mem h2)) rfl rfl (hbb _ (List.getElem_mem h1))) ⟨_, rfl, ?_⟩
    by_cases hbd : l[i].b = l'[i].b
    · rw [decide_eq_true hbd]
      refine w13_2 ⟨fun h => (by cases h), fun _ => ?_⟩
      rw [i64w (by omega), show ((i : Int) + 1) = ((i + 1 : Nat) : Int) by omega]
      refine c13_loop hA hB hn hm hl hb hbb k (i + 1) (by omega) ?_
      have epc : l[i].pc = l'[i].pc := by unfold Ob.pc; rw [he, hbd]
      have e : ((l.drop i).map Ob.pc = (l'.drop i).map Ob.pc) = ((l.drop (i + 1)).map Ob.pc = (l'.drop (i + 1)).map Ob.pc) := by
        rw [hd1, hd2, List.map_cons, List.map_cons, epc]
        exact propext ⟨fun x => (List.cons.inj x).2, fun x => by rw [x]⟩
      simpa only [e] using hQ
    · rw [decide_eq_false hbd]
      exact no fun e => hbd (congrArg Prod.snd e)
theorem c13 {M : Mem} {A B : Option Addr} {l l' : List Ob} (hA : ObR M A l) (hB : ObR M B l') {n m c d : Nat} (hn : n = l.length) (hm : m = l'.length) (hb : n ≤ 4611686018427387904) (hbb : ∀ o ∈ l, o.b.length ≤ 4611686018427387904) :
    Cn Try.prog 13 #[.slice A n c, .slice B m d] M fun v N => v = .bool (decide (l.map Ob.pc = l'.map Ob.pc)) ∧ N = M := by
  refine w13_0 ⟨fun h => ⟨?_, rfl⟩, fun h => ?_⟩
  · have : l.map Ob.pc ≠ l'.map Ob.pc := fun e => h (by
      have := congrArg List.length e
      simp at this; rw [hn, hm, this])
    simp [this]
  · exact c13_loop hA hB hn hm (by omega) hb hbb n 0 (by omega) ⟨rfl, rfl⟩

/-! ### Writing over -/
theorem put_inv {M M' : Mem} {blk off : Nat} {v : Value} (h : M.put blk off v = some M') : ∃ cs t, M.nb[blk / 2]? = some (.cells cs t) ∧ off < cs.size ∧ M' = M.upd (blk / 2) (.cells (cs.setIfInBounds off v) t) := by
  unfold Mem.put at h
  split at h
  · cases h
  split at h
  · cases h
  split at h
  · split at h
    · rename_i cs t hc
      split at h
      · rename_i ho
        exact ⟨cs, t, hc, ho, (Option.some.inj h).symm⟩
      · cases h
    · cases h
  · cases h
theorem own_blk {S : Nat → Prop} {M : Mem} {e : TypeId} {A : Option Addr} {c n s : Nat} {z : Int} {L : List Value} {a : Addr} (h : Own S M e A c L) (ha : idxA A n s z = some a) : ∃ cs, M.nb[a.block / 2]? = some (.cells cs e) := by
  unfold idxA at ha
  split at ha
  · rcases h with ⟨rfl, _, _⟩ | ⟨j, cs, sp, rfl, _, _, h4, _⟩
    · cases ha
    · simp at ha
      subst ha
      exact ⟨cs, by show M.nb[2 * j / 2]? = _; rw [show 2 * j / 2 = j by omega]; exact h4⟩
  · cases ha
/-- Bytes of any kind. -/
def Bd (S : Nat → Prop) (M : Mem) (A : Option Addr) (n : Nat) : Prop := ∃ l8 : List Int, l8.length = n ∧ ∃ c, Own S M 5 A c (l8.map (Value.int .u8))
theorem Bd.of {S : Nat → Prop} {M : Mem} {A : Option Addr} {c : Nat} {b : List Nat} (h : Own S M 5 A c (U8 b)) : Bd S M A b.length :=
  ⟨b.map fun x : Nat => (x : Int), by simp, c, by rw [List.map_map]; exact h⟩
theorem own_other {S : Nat → Prop} {M M' : Mem} {e t : TypeId} {A : Option Addr} {c : Nat} {L : List Value} (h : Own S M e A c L) {blk off : Nat} {v : Value} (hp : M.put blk off v = some M') (ht : ∃ cs, M.nb[blk / 2]? = some (.cells cs t)) (hne : t ≠ e) : Own S M' e A c L := by
  obtain ⟨cs, t', h1, h2, rfl⟩ := put_inv hp
  obtain ⟨cs', ht⟩ := ht
  rcases h with h | ⟨j, cs2, sp, g1, g2, g3, g4, g5⟩
  · exact .inl h
  · refine .inr ⟨j, cs2, sp, g1, g2, g3, ?_, g5⟩
    rw [upd_ne]; · exact g4
    rintro rfl
    rw [ht] at g4
    exact hne (by injection g4 with g4; injection g4)
theorem Bd.byte {S : Nat → Prop} {M M' : Mem} {A : Option Addr} {n : Nat} (h : Bd S M A n) {blk off : Nat} {y : Int} (hp : M.put blk off (.int .u8 y) = some M') : Bd S M' A n := by
  obtain ⟨l8, hl, c, h⟩ := h
  obtain ⟨cs, t, h1, h2, rfl⟩ := put_inv hp
  rcases h with h | ⟨j, cs2, sp, g1, g2, g3, g4, g5, g6, g7⟩
  · exact ⟨l8, hl, c, .inl h⟩
  by_cases hj : j = blk / 2
  · subst hj
    rw [h1] at g4
    obtain ⟨rfl, rfl⟩ : cs = cs2 ∧ t = 5 := by injection g4 with g4; injection g4 with g4 g8; exact ⟨g4, g8⟩
    refine ⟨l8.set off y, by simpa using hl, c, .inr ⟨_, _, sp, g1, g2, g3, upd_at (lt_of_at h1), ?_, by simpa using g6, by simpa using g7⟩⟩
    rw [Array.toList_setIfInBounds, List.length_map, List.length_set, List.take_set]
    rw [List.length_map] at g5
    rw [g5, List.map_set]
  · exact ⟨l8, hl, c, .inr ⟨j, cs2, sp, g1, g2, g3, by rw [upd_ne hj]; exact g4, g5, g6, g7⟩⟩
theorem Bd.other {S : Nat → Prop} {M M' : Mem} {t : TypeId} {A : Option Addr} {n : Nat} (h : Bd S M A n) {blk off : Nat} {v : Value} (hp : M.put blk off v = some M') (ht : ∃ cs, M.nb[blk / 2]? = some (.cells cs t)) (hne : t ≠ 5) : Bd S M' A n := by
  obtain ⟨l8, hl, c, h⟩ := h
  exact ⟨l8, hl, c, own_other h hp ht hne⟩
theorem Obs_set : ∀ (l : List Ob) (i : Nat) (k : Int) (h : i < l.length), (Obs l).set (i * 2 + 0) (.int .i64 k) = Obs (l.set i ⟨k, l[i].b, l[i].A, l[i].c⟩)
  | o :: l, 0, k, _ => rfl
  | o :: l, i + 1, k, h => by
    have h' : i < l.length := by simpa using h
    have := Obs_set l i k h'
    show ([_, _] ++ Obs l).set ((i + 1) * 2 + 0) _ = [_, _] ++ Obs (l.set i ⟨k, l[i].b, l[i].A, l[i].c⟩)
    rw [← this, List.set_append_right _ _ (by simp; omega)]
    rw [show (i + 1) * 2 + 0 - [Value.int IntKind.i64 o.k, Value.slice o.A o.b.length o.c].length = i * 2 + 0 by simp; omega]
/-- A list that may be written over. -/
def Ow (S : Nat → Prop) (M : Mem) (A : Option Addr) (c : Nat) (l : List Ob) : Prop := Own S M 44 A (c * 2) (Obs l) ∧ ∀ o ∈ l, Bd S M o.A o.b.length
theorem Ol.ow {b0 : Nat} {M : Mem} {A : Option Addr} {c : Nat} {l : List Ob} (h : Ol b0 M A c l) : Ow (fun i => b0 ≤ i) M A c l := by
  obtain ⟨D, h1, h2, h3⟩ := h
  exact ⟨h2.mono fun i _ hi => (h1 i hi).1, fun o ho => .of ((h3 o ho).mono fun i _ hi => hi.1)⟩
theorem Ow.at {S : Nat → Prop} {M : Mem} {A : Option Addr} {c : Nat} {l : List Ob} (h : Ow S M A c l) {n i : Nat} {z : Int} (hz : z = (i : Int)) (hn : i < n) (hi : i < l.length) :
    ∃ a, idxA A n 2 z = some a ∧ M.slAt a.block (a.off + 1) = some (l[i].A, l[i].b.length, l[i].c) := by
  obtain ⟨a, h1, h2⟩ := Row.flat (f := Ob.cells) (s := 2) (fun _ => rfl) h.1.row (by decide) hz hn hi
  refine ⟨a, h1, ?_⟩
  have := h2 1 (by decide)
  simp only [Mem.slAt, this]; rfl
section
variable {S : Nat → Prop} {M0 : Mem} {A : Option Addr} {n c : Nat}
theorem c14_in (hS : ∀ i, S i → M0.floor ≤ i) {l : List Ob} (hn : n = l.length) (hbb : ∀ o ∈ l, o.b.length ≤ 4611686018427387904) {i : Nat} (hi : i < l.length) {Q : Value → Mem → Prop}
    (hE : ∀ M' a M'', Chg S M0 M' → Ow S M' A c l → idxA A n 2 (i : Nat) = some a → M'.put a.block a.off (.int .i64 9) = some M'' → A14_1 A n c (IntKind.i64.wrap ((i : Int) + 1)) M'' Q) :
    ∀ (k q : Nat) {M : Mem}, q + k = l[i].b.length → Chg S M0 M → Ow S M A c l → A14_2 A n c i q M Q
  | 0, q, M, hq, hC, h => by
    obtain ⟨a, i1, i2⟩ := h.at (n := n) (z := i) rfl (by omega) hi
    obtain ⟨a', j1, M', j2, C', _, O'⟩ := h.1.put (fun i hi => by rw [hC.floor]; exact hS i hi) (n := n) (i := i) (s := 2) (o := 0) (z := i) (v := .int .i64 9) rfl (by omega) (by decide) (by rw [Obs_len]; omega) rfl
    rw [i1] at j1
    obtain rfl := Option.some.inj j1
    exact w14_2 ⟨_, i1, _, i2, fun h => by (have h : (q : Int) < (l[i].b.length : Nat) := h); omega, fun _ => ⟨_, i1, _, j2, hE M _ _ hC h i1 j2⟩⟩
  | k + 1, q, M, hq, hC, h => by
    obtain ⟨a, i1, i2⟩ := h.at (n := n) (z := i) rfl (by omega) hi
    obtain ⟨l8, hl8, c8, hO⟩ := h.2 _ (List.getElem_mem hi)
    have hlen := hbb _ (List.getElem_mem hi)
    have hlt : q < l8.length := by omega
    obtain ⟨a2, j1, j2⟩ := hO.row.int1 (n := l[i].b.length) (i := q) (z := q) (k := .u8) (x := l8[q]) rfl (by omega) (by simp [hlt])
    obtain ⟨a3, j3, M', P1, C1, _, O1⟩ := hO.put1 (fun i hi => by rw [hC.floor]; exact hS i hi) (n := l[i].b.length) (i := q) (z := q) (v := .int .u8 (IntKind.u8.wrap (((BitVec.ofInt (IntKind.bits .u8) l8[q] ^^^ BitVec.ofInt (IntKind.bits .u8) 255).toNat : Nat) : Int))) rfl (by omega) (by simp [hlt]) rfl
    refine w14_2 ⟨_, i1, _, i2, fun _ => ⟨_, i1, _, i2, _, i1, _, i2, _, j1, _, j2, _, j3, _, P1, ?_⟩, fun h => absurd (show (q : Int) < (l[i].b.length : Nat) by omega) h⟩
    rw [i64w (x := (q : Int) + 1) (by omega), show ((q : Int) + 1) = ((q + 1 : Nat) : Int) by omega]
    exact c14_in hS hn hbb hi hE k (q + 1) (by omega) (hC.trans C1) ⟨own_other h.1 P1 (own_blk hO j3) (by decide), fun o ho => (h.2 o ho).byte P1⟩
theorem c14_loop (hS : ∀ i, S i → M0.floor ≤ i) : ∀ (k i : Nat) (l : List Ob) {M : Mem}, n = l.length → n ≤ 4611686018427387904 → (∀ o ∈ l, o.b.length ≤ 4611686018427387904) → i + k = l.length → Chg S M0 M → Ow S M A c l →
    A14_1 A n c i M fun v N => Chg S M0 N
  | 0, i, l, M, hn, hb, hbb, hi, hC, h => w14_1 ⟨fun h => by omega, fun _ => hC⟩
  | k + 1, i, l, M, hn, hb, hbb, hi, hC, h => by
    have hil : i < l.length := by omega
    refine w14_1 ⟨fun _ => c14_in hS hn hbb hil (fun M' a M'' hC' hO ha hp => ?_) _ 0 (Nat.zero_add _) hC h, fun h => by omega⟩
    obtain ⟨a', j1, M3, j2, C', _, O'⟩ := hO.1.put (fun i hi => by rw [hC'.floor]; exact hS i hi) (n := n) (i := i) (s := 2) (o := 0) (z := i) (v := .int .i64 9) rfl (by omega) (by decide) (by rw [Obs_len]; omega) rfl
    rw [ha] at j1
    obtain rfl := Option.some.inj j1
    rw [show a.off + 0 = a.off from rfl, hp] at j2
    obtain rfl := Option.some.inj j2
    rw [Obs_set l i 9 hil] at O'
    rw [i64w (by omega), show ((i : Int) + 1) = ((i + 1 : Nat) : Int) by omega]
    have hm : ∀ o ∈ l.set i ⟨9, l[i].b, l[i].A, l[i].c⟩, ∃ o' ∈ l, o.A = o'.A ∧ o.b = o'.b := by
      intro o ho
      rcases List.mem_or_eq_of_mem_set ho with h | rfl
      · exact ⟨o, h, rfl, rfl⟩
      · exact ⟨l[i], List.getElem_mem hil, rfl, rfl⟩
    refine c14_loop hS k (i + 1) (l.set i ⟨9, l[i].b, l[i].A, l[i].c⟩) (by simpa using hn) hb (fun o ho => ?_) (by simp; omega) (hC'.trans C') ⟨O', fun o ho => ?_⟩
    · obtain ⟨o', h1, h2, h3⟩ := hm o ho
      rw [h3]; exact hbb o' h1
    · obtain ⟨o', h1, h2, h3⟩ := hm o ho
      rw [h2, h3]
      exact (hO.2 o' h1).other hp (own_blk hO.1 ha) (by decide)
end
theorem c14 {S : Nat → Prop} {M : Mem} {A : Option Addr} {n c : Nat} {l : List Ob} (hS : ∀ i, S i → M.floor ≤ i) (hn : n = l.length) (hb : n ≤ 4611686018427387904) (hbb : ∀ o ∈ l, o.b.length ≤ 4611686018427387904) (h : Ow S M A c l) :
    Cn Try.prog 14 #[.slice A n c] M fun v N => Chg S M N :=
  w14_0 (c14_loop hS _ 0 l hn hb hbb (Nat.zero_add _) (.refl _) h)
end Go.Zt
