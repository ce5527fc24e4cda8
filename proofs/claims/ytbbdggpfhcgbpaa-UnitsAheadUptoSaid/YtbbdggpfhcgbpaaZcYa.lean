/- Layer 19: many lists written over, one after the other. -/
import Derived.Test.YtbbdggpfhcgbpaaZcY
set_option linter.unusedSimpArgs false
set_option linter.unusedVariables false
namespace Go.Zt
open Go Go.Sim Go.Proofs Go.RowKit

/-- What stays, whatever bytes and kinds are written over. -/
structure Stays (I : Mem → Prop) : Prop where
  byte : ∀ {M M' : Mem} {blk off : Nat} {y : Int}, I M → (∃ cs, M.nb[blk / 2]? = some (.cells cs 5)) → M.put blk off (.int .u8 y) = some M' → I M'
  kind : ∀ {M M' : Mem} {blk off : Nat}, I M → (∃ cs, M.nb[blk / 2]? = some (.cells cs 44)) → off % 2 = 0 → M.put blk off (.int .i64 9) = some M' → I M'
theorem own_even {S : Nat → Prop} {M : Mem} {e : TypeId} {A : Option Addr} {c n : Nat} {z : Int} {L : List Value} {a : Addr} (h : Own S M e A c L) (ha : idxA A n 2 z = some a) : a.off % 2 = 0 := by
  unfold idxA at ha
  split at ha
  · rcases h with ⟨rfl, _, _⟩ | ⟨j, cs, sp, rfl, _, _, h4, _⟩
    · cases ha
    · simp at ha
      subst ha
      show (z.toNat * 2) % 2 = 0
      omega
  · cases ha
section
variable {S : Nat → Prop} {M0 : Mem} {A : Option Addr} {n c : Nat} {I : Mem → Prop}
theorem c14g_in (hI : Stays I) (hS : ∀ i, S i → M0.floor ≤ i) {l : List Ob} (hn : n = l.length) (hbb : ∀ o ∈ l, o.b.length ≤ 4611686018427387904) {i : Nat} (hi : i < l.length) {Q : Value → Mem → Prop}
    (hE : ∀ M' a M'', I M' → Chg S M0 M' → Ow S M' A c l → idxA A n 2 (i : Nat) = some a → M'.put a.block a.off (.int .i64 9) = some M'' → A14_1 A n c (IntKind.i64.wrap ((i : Int) + 1)) M'' Q) :
    ∀ (k q : Nat) {M : Mem}, I M → q + k = l[i].b.length → Chg S M0 M → Ow S M A c l → A14_2 A n c i q M Q
  | 0, q, M, hIM, hq, hC, h => by
    obtain ⟨a, i1, i2⟩ := h.at (n := n) (z := i) rfl (by omega) hi
    obtain ⟨a', j1, M', j2, C', _, O'⟩ := h.1.put (fun i hi => by rw [hC.floor]; exact hS i hi) (n := n) (i := i) (s := 2) (o := 0) (z := i) (v := .int .i64 9) rfl (by omega) (by decide) (by rw [Obs_len]; omega) rfl
    rw [i1] at j1
    obtain rfl := Option.some.inj j1
    exact w14_2 ⟨_, i1, _, i2, fun h => by (have h : (q : Int) < (l[i].b.length : Nat) := h); omega, fun _ => ⟨_, i1, _, j2, hE M _ _ hIM hC h i1 j2⟩⟩
  | k + 1, q, M, hIM, hq, hC, h => by
    obtain ⟨a, i1, i2⟩ := h.at (n := n) (z := i) rfl (by omega) hi
    obtain ⟨l8, hl8, c8, hO⟩ := h.2 _ (List.getElem_mem hi)
    have hlen := hbb _ (List.getElem_mem hi)
    have hlt : q < l8.length := by omega
    obtain ⟨a2, j1, j2⟩ := hO.row.int1 (n := l[i].b.length) (i := q) (z := q) (k := .u8) (x := l8[q]) rfl (by omega) (by simp [hlt])
    obtain ⟨a3, j3, M', P1, C1, _, O1⟩ := hO.put1 (fun i hi => by rw [hC.floor]; exact hS i hi) (n := l[i].b.length) (i := q) (z := q) (v := .int .u8 (IntKind.u8.wrap (((BitVec.ofInt (IntKind.bits .u8) l8[q] ^^^ BitVec.ofInt (IntKind.bits .u8) 255).toNat : Nat) : Int))) rfl (by omega) (by simp [hlt]) rfl
    refine w14_2 ⟨_, i1, _, i2, fun _ => ⟨_, i1, _, i2, _, i1, _, i2, _, j1, _, j2, _, j3, _, P1, ?_⟩, fun h => absurd (show (q : Int) < (l[i].b.length : Nat) by omega) h⟩
    rw [i64w (x := (q : Int) + 1) (by omega), show ((q : Int) + 1) = ((q + 1 : Nat) : Int) by omega]
    exact c14g_in hI hS hn hbb hi hE k (q + 1) (hI.byte hIM (own_blk hO j3) P1) (by omega) (hC.trans C1) ⟨own_other h.1 P1 (own_blk hO j3) (by decide), fun o ho => (h.2 o ho).byte P1⟩
theorem c14g_loop (hI : Stays I) (hS : ∀ i, S i → M0.floor ≤ i) : ∀ (k i : Nat) (l : List Ob) {M : Mem}, I M → n = l.length → n ≤ 4611686018427387904 → (∀ o ∈ l, o.b.length ≤ 4611686018427387904) → i + k = l.length → Chg S M0 M → Ow S M A c l →
    A14_1 A n c i M fun v N => Chg S M0 N ∧ I N
  | 0, i, l, M, hIM, hn, hb, hbb, hi, hC, h => w14_1 ⟨fun h => by omega, fun _ => ⟨hC, hIM⟩⟩
  | k + 1, i, l, M, hIM, hn, hb, hbb, hi, hC, h => by
    have hil : i < l.length := by omega
    refine w14_1 ⟨fun _ => c14g_in hI hS hn hbb hil (fun M' a M'' hIM' hC' hO ha hp => ?_) _ 0 hIM (Nat.zero_add _) hC h, fun h => by omega⟩
    obtain ⟨a', j1, M3, j2, C', _, O'⟩ := hO.1.put (fun i hi => by rw [hC'.floor]; exact hS i hi) (n := n) (i := i) (s := 2) (o := 0) (z := i) (v := .int .i64 9) rfl (by omega) (by decide) (by rw [Obs_len]; omega) rfl
    rw [ha] at j1
    obtain rfl := Option.some.inj j1
    rw [show a.off + 0 = a.off from rfl, hp] at j2
    obtain rfl := Option.some.inj j2
    rw [Obs_set l i 9 hil] at O'
    rw [i64w (by omega), show ((i : Int) + 1) = ((i + 1 : Nat) : Int) by omega]
    have hm : ∀ o ∈ l.set i ⟨9, l[i].b, l[i].A, l[i].c⟩, ∃ o' ∈ l, o.A = o'.A ∧ o.b = o'.b := by
      intro o ho
      rcases List.mem_or_eq_of_mem_set ho with h | rfl
      · exact ⟨o, h, rfl, rfl⟩
      · exact ⟨l[i], List.getElem_mem hil, rfl, rfl⟩
    refine c14g_loop hI hS k (i + 1) (l.set i ⟨9, l[i].b, l[i].A, l[i].c⟩) (hI.kind hIM' (own_blk hO.1 ha) (own_even hO.1 ha) hp) (by simpa using hn) hb (fun o ho => ?_) (by simp; omega) (hC'.trans C') ⟨O', fun o ho => ?_⟩
    · obtain ⟨o', h1, h2, h3⟩ := hm o ho
      rw [h3]; exact hbb o' h1
    · obtain ⟨o', h1, h2, h3⟩ := hm o ho
      rw [h2, h3]
      exact (hO.2 o' h1).other hp (own_blk hO.1 ha) (by decide)
end
theorem c14g {I : Mem → Prop} (hI : Stays I) {S : Nat → Prop} {M : Mem} (hIM : I M) {A : Option Addr} {n c : Nat} {l : List Ob} (hS : ∀ i, S i → M.floor ≤ i) (hn : n = l.length) (hb : n ≤ 4611686018427387904) (hbb : ∀ o ∈ l, o.b.length ≤ 4611686018427387904) (h : Ow S M A c l) :
    Cn Try.prog 14 #[.slice A n c] M fun v N => Chg S M N ∧ I N :=
  w14_0 (c14g_loop hI hS _ 0 l hIM hn hb hbb (Nat.zero_add _) (.refl _) h)
/-- A list of so many pieces, of whatever content, that may be written over. -/
def Sh (S : Nat → Prop) (B : Nat) (M : Mem) (A : Option Addr) (n c : Nat) : Prop := ∃ l : List Ob, l.length = n ∧ Ow S M A c l ∧ ∀ o ∈ l, o.b.length ≤ B
theorem Sh.byte {S : Nat → Prop} {B : Nat} {M M' : Mem} {A : Option Addr} {n c : Nat} (h : Sh S B M A n c) {blk off : Nat} {y : Int} (ht : ∃ cs, M.nb[blk / 2]? = some (.cells cs 5)) (hp : M.put blk off (.int .u8 y) = some M') : Sh S B M' A n c := by
  obtain ⟨l, h1, h2, h3⟩ := h
  exact ⟨l, h1, ⟨own_other h2.1 hp ht (by decide), fun o ho => (h2.2 o ho).byte hp⟩, h3⟩
theorem Sh.kind {S : Nat → Prop} {B : Nat} {M M' : Mem} {A : Option Addr} {n c : Nat} (h : Sh S B M A n c) {blk off : Nat} (ht : ∃ cs, M.nb[blk / 2]? = some (.cells cs 44)) (he : off % 2 = 0) (hp : M.put blk off (.int .i64 9) = some M') : Sh S B M' A n c := by
  obtain ⟨l, h1, h2, h3⟩ := h
  have hb : ∀ o ∈ l, Bd S M' o.A o.b.length := fun o ho => (h2.2 o ho).other hp ht (by decide)
  obtain ⟨cs, t, g1, g2, rfl⟩ := put_inv hp
  obtain ⟨cs', ht⟩ := ht
  rw [g1] at ht
  obtain ⟨rfl, rfl⟩ : cs = cs' ∧ t = 44 := by injection ht with ht; injection ht with ht h8; exact ⟨ht, h8⟩
  rcases h2.1 with h | ⟨j, cs2, sp, q1, q2, q3, q4, q5, q6, q7⟩
  · exact ⟨l, h1, ⟨.inl h, hb⟩, h3⟩
  by_cases hj : j = blk / 2
  · subst hj
    rw [g1] at q4
    obtain rfl : cs = cs2 := by injection q4 with q4; injection q4
    by_cases ho : off / 2 < l.length
    · have hm : ∀ o ∈ l.set (off / 2) ⟨9, l[off / 2].b, l[off / 2].A, l[off / 2].c⟩, ∃ o' ∈ l, o.A = o'.A ∧ o.b = o'.b := by
        intro o ho'
        rcases List.mem_or_eq_of_mem_set ho' with h | rfl
        · exact ⟨o, h, rfl, rfl⟩
        · exact ⟨l[off / 2], List.getElem_mem ho, rfl, rfl⟩
      refine ⟨l.set (off / 2) ⟨9, l[off / 2].b, l[off / 2].A, l[off / 2].c⟩, by simpa using h1, ⟨.inr ⟨_, _, sp, q1, q2, q3, upd_at (lt_of_at g1), ?_, ?_, by simpa using q7⟩, fun o ho' => ?_⟩, fun o ho' => ?_⟩
      · rw [← Obs_set l (off / 2) 9 ho, List.length_set, Array.toList_setIfInBounds, List.take_set, q5, show off / 2 * 2 + 0 = off by omega]
      · rw [Obs_len, List.length_set, ← Obs_len]; exact q6
      · obtain ⟨o', a1, a2, a3⟩ := hm o ho'
        rw [a2, a3]; exact hb o' a1
      · obtain ⟨o', a1, a2, a3⟩ := hm o ho'
        rw [a3]; exact h3 o' a1
    · refine ⟨l, h1, ⟨.inr ⟨_, _, sp, q1, q2, q3, upd_at (lt_of_at g1), ?_, q6, by simpa using q7⟩, hb⟩, h3⟩
      rw [Array.toList_setIfInBounds, List.take_set, q5, List.set_eq_of_length_le (by rw [Obs_len]; omega)]
  · exact ⟨l, h1, ⟨.inr ⟨j, cs2, sp, q1, q2, q3, by rw [upd_ne hj]; exact q4, q5, q6, q7⟩, hb⟩, h3⟩
end Go.Zt
