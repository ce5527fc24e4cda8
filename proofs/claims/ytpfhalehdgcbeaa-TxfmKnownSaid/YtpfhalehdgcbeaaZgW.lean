/- Layer 8: the small functions of the program and of the reference. -/
import Derived.Test.YtpfhalehdgcbeaaZgV
import Derived.Test.YtpfhalehdgcbeaaZgDa
import Derived.Test.YtpfhalehdgcbeaaZgDb
import Derived.Test.YtpfhalehdgcbeaaZgDd
set_option linter.unusedSimpArgs false
set_option linter.unusedVariables false
namespace Go.Zt
open Go Go.Sim Go.Proofs Go.RowKit

def upto (k : Nat) : List Int := (List.range k).map fun (i : Nat) => (i : Int)
theorem upto_len (k : Nat) : (upto k).length = k := by simp [upto]
def typesS (n : Int) : List Int := if n = 4 then upto 10 else if n = 8 ∨ n = 16 then upto 9 else if n = 32 then [0, 8] else if n = 64 then [0] else []
theorem typesS_le (n : Int) : (typesS n).length ≤ 10 := by
  unfold typesS; split
  · simp [upto]
  split
  · simp [upto]
  split
  · decide
  split <;> decide
/-- A new row of ints, told. -/
def NewR (M : Mem) (L : List Int) : Value → Mem → Prop := fun v N => ∃ A c, v = .slice A L.length c ∧ Keep M N ∧ Own (fun j => M.nb.size ≤ j) N 3 A c (Ints L)
theorem newR_lit {M : Mem} {L : List Int} {cs : Array Value} {n : Nat} (h : (Ints L).toArray = cs) (hn : n = L.length) : NewR M L (.slice (some ⟨2 * M.nb.size, 0, none⟩) n n) (M.new (.cells cs 3)) := by
  subst h; subst hn
  exact ⟨_, _, rfl, .new _ _, by simpa using Own.fresh (M := M) (e := 3) (S := fun j => M.nb.size ≤ j) (L := Ints L) (Nat.le_refl _)⟩
theorem c23_loop {M0 : Mem} (hf : M0.floor ≤ M0.nb.size) {k : Nat} (hk : k ≤ 1024) : ∀ (m i : Nat) (A : Option Addr) (c : Nat) {M : Mem}, i + m = k → Keep M0 M → Own (fun j => M0.nb.size ≤ j) M 3 A c (Ints (upto i)) → A23_2 A i c (k : Nat) (i : Nat) M (NewR M0 (upto k)) := by
  intro m
  induction m with
  | zero =>
    intro i A c M hi K hO
    obtain rfl : k = i := by omega
    exact w23_2 ⟨fun h => by omega, fun _ => ⟨A, c, by rw [upto_len], K, hO⟩⟩
  | succ m ih =>
    intro i A c M hi K hO
    obtain ⟨A', c', N, g1, g2, g3, g4⟩ := app1 el22 hf K hO (n := i) (by rw [List.length_map, upto_len]) (v := .int .i64 (i : Nat)) rfl (by omega)
    refine w23_2 ⟨fun _ => ⟨_, g1, _, rfl, ?_⟩, fun h => by omega⟩
    rw [i64w (by omega), show ((i : Int) + 1) = ((i + 1 : Nat) : Int) by omega]
    refine ih (i + 1) A' c' (by omega) g2 ?_
    rw [upto, List.range_succ, List.map_append, Ints, List.map_append]; exact g3
theorem c23 {M : Mem} (hf : M.floor ≤ M.nb.size) {n : Int} : Cn Try.prog 23 #[.int .i64 n] M (NewR M (typesS n)) := by
  have go : ∀ k : Nat, k ≤ 1024 → typesS n = upto k → A23_1 (k : Nat) M (NewR M (typesS n)) := fun k hk h => w23_1 (by
    rw [h]; exact c23_loop hf hk k 0 none 0 (Nat.zero_add _) (.refl _) Own.empty)
  refine w23_0 ⟨fun h => go 10 (by decide) (by unfold typesS; rw [if_pos h]), fun h4 => ⟨fun h8 => ⟨fun _ => go 9 (by decide) ?_, fun h => absurd h8 h⟩, fun h8 => ⟨fun h => go 9 (by decide) ?_, fun h16 => ⟨fun h => ?_, fun h32 => ⟨fun h => ?_, fun h64 => ?_⟩⟩⟩⟩⟩
  · unfold typesS; rw [if_neg h4, if_pos (.inl h8)]
  · unfold typesS; rw [if_neg h4, if_pos (.inr h)]
  · rw [show typesS n = [0, 8] by unfold typesS; rw [if_neg h4, if_neg (by omega), if_pos h]]
    exact newR_lit rfl rfl
  · rw [show typesS n = [0] by unfold typesS; rw [if_neg h4, if_neg (by omega), if_neg h32, if_pos h]]
    exact newR_lit rfl rfl
  · exact go 0 (by decide) (by unfold typesS; rw [if_neg h4, if_neg (by omega), if_neg h32, if_neg h64]; rfl)
def min32 (n : Int) : Int := if 32 < n then 32 else n
theorem c63 {M : Mem} {A : Option Addr} {n c : Nat} {l : List Int} (hA : Row M A (Ints l)) (hn : n = l.length) (hb : n ≤ 1048576) {x : Int} :
    Cn Try.prog 63 #[.slice A n c, .int .i64 x] M fun v N => (∃ z : Int, v = .int .i64 z ∧ decide (z ≥ 0) = l.contains x) ∧ N = M := by
  have loop : ∀ (m i : Nat), i + m = n → (∀ j, j < i → l[j]? ≠ some x) → A63_1 A n c x (n : Nat) (i : Nat) M fun v N => (∃ z : Int, v = .int .i64 z ∧ decide (z ≥ 0) = l.contains x) ∧ N = M := by
    intro m
    induction m with
    | zero =>
      intro i hi hp
      refine w63_1 ⟨fun h => by omega, fun _ => ⟨⟨_, rfl, ?_⟩, rfl⟩⟩
      symm
      rw [show decide ((-1 : Int) ≥ 0) = false from rfl, ← Bool.not_eq_true, List.contains_iff_mem]
      intro hm
      obtain ⟨j, hj, e⟩ := List.getElem_of_mem hm
      exact hp j (by omega) (by rw [List.getElem?_eq_getElem hj, e])
    | succ m ih =>
      intro i hi hp
      obtain ⟨a, i1, i2⟩ := hA.int1 (n := n) (i := i) (z := i) (k := .i64) (x := gx l i) rfl (by omega) (gx_at (by omega))
      have e : l[i]? = some (gx l i) := by
        unfold gx; rw [List.getD_eq_getElem?_getD, List.getElem?_eq_getElem (show i < l.length by omega)]; rfl
      refine w63_1 ⟨fun _ => ⟨_, i1, _, i2, fun h => ⟨⟨_, rfl, ?_⟩, rfl⟩, fun h => ?_⟩, fun h => by omega⟩
      · rw [decide_eq_true (by omega)]; symm
        rw [List.contains_iff_mem]
        exact List.mem_of_getElem? (by rw [e, h])
      · rw [i64w (by omega), show ((i : Int) + 1) = ((i + 1 : Nat) : Int) by omega]
        refine ih (i + 1) (by omega) fun j hj hh => ?_
        by_cases hji : j = i
        · subst hji; rw [e] at hh; exact h (Option.some.inj hh).symm
        · exact hp j (by omega) hh
  exact w63_0 (loop n 0 (Nat.zero_add _) fun j hj => by omega)
theorem c49 {M : Mem} {A : Option Addr} {n c : Nat} {l : List Int} (hA : Row M A (Ints l)) (hn : n = l.length) (hb : n ≤ 1048576) {x : Int} :
    Cn Try.prog 49 #[.slice A n c, .int .i64 x] M fun v N => v = .bool (l.contains x) ∧ N = M := by
  refine w49_0 (Cn.mono (c63 hA hn hb) ?_)
  rintro _ N ⟨⟨z, rfl, hz⟩, rfl⟩
  exact ⟨_, rfl, by rw [hz], rfl⟩
/-- Are all within a bound? -/
def inB (b : Int) (x : List Int) : Bool := x.all fun v => decide (-b ≤ v ∧ v ≤ b)
def askS (n typ : Int) (x : List Int) (side b : Int) : Nat :=
  if (typesS n).length = 0 then 2 else if !(typesS n).contains typ then 80 else if (x.length : Int) ≠ IntKind.i64.wrap (side * side) then 2 else if inB b x then 0 else 2
section
variable {M : Mem} {A : Option Addr} {n c : Nat} {x : List Int} {b : Int}
theorem inB_bad {i : Nat} (h1 : i < x.length) (h : ¬ (-b ≤ x[i] ∧ x[i] ≤ b)) : inB b x = false := by
  unfold inB
  rw [← Bool.not_eq_true, List.all_eq_true]
  intro hh
  exact h (of_decide_eq_true (hh _ (List.getElem_mem h1)))
theorem c27_loop (hA : Row M A (Ints x)) (hn : n = x.length) (hb : n ≤ 1048576) (hb0 : 0 ≤ b ∧ b ≤ 1048576) {Q : Value → Mem → Prop} (hQ : Q (.int .i64 ((if inB b x then 0 else 2 : Nat) : Int)) M) : ∀ (m i : Nat), i + m = n → inB b (x.take i) = true → A27_1 b A n c (n : Nat) (i : Nat) M Q := by
  intro m
  induction m with
  | zero =>
    intro i hi hp
    rw [List.take_of_length_le (by omega)] at hp
    rw [hp] at hQ
    exact w27_1 ⟨fun h => by omega, fun _ => hQ⟩
  | succ m ih =>
    intro i hi hp
    have h1 : i < x.length := by omega
    obtain ⟨a, i1, i2⟩ := hA.int1 (n := n) (i := i) (z := i) (k := .i64) (x := x[i]) rfl (by omega) (by simp [h1])
    refine w27_1 ⟨fun _ => ⟨_, i1, _, i2, fun h => ?_, fun h => ?_⟩, fun h => by omega⟩
    · rw [i64w (by omega)] at h
      rw [inB_bad h1 (by omega)] at hQ
      exact w27_2 ⟨fun _ => hQ, fun h => (by cases h)⟩
    · rw [i64w (by omega)] at h
      refine w27_2 ⟨fun h2 => by
        rw [inB_bad h1 (by have := of_decide_eq_true h2; omega)] at hQ
        exact hQ, fun h2 => ?_⟩
      rw [i64w (by omega), show ((i : Int) + 1) = ((i + 1 : Nat) : Int) by omega]
      refine ih (i + 1) (by omega) ?_
      have := of_decide_eq_false h2
      unfold inB at hp ⊢
      rw [List.take_succ_eq_append_getElem h1, List.all_append, hp]
      simp only [List.all_cons, List.all_nil, Bool.and_true, Bool.true_and]
      exact decide_eq_true (by omega)
theorem c27 (hf : M.floor ≤ M.nb.size) (hA : Row M A (Ints x)) (hn : n = x.length) (hb : n ≤ 1048576) (hb0 : 0 ≤ b ∧ b ≤ 1048576) {sz typ side : Int} :
    Cn Try.prog 27 #[.int .i64 sz, .int .i64 typ, .slice A n c, .int .i64 side, .int .i64 b] M fun v N => v = .int .i64 (askS sz typ x side b : Nat) ∧ Keep M N := by
  refine w27_0 (Cn.mono (c23 hf) ?_)
  rintro _ N ⟨B, d, rfl, K, hO⟩
  have hle := typesS_le sz
  unfold askS
  refine ⟨_, rfl, fun h => ⟨?_, K⟩, fun h => ?_⟩
  · rw [if_pos (by simpa using h)]; rfl
  rw [if_neg (by simpa using h)]
  refine Cn.eq (c49 hO.row rfl (by omega)) ⟨_, rfl, fun h2 => ⟨?_, K⟩, fun h2 => ?_⟩
  · rw [if_pos h2]; rfl
  rw [if_neg (by rw [h2]; simp)]
  refine ⟨fun h3 => ⟨?_, K⟩, fun h3 => ?_⟩
  · rw [if_pos (by rw [← hn]; exact h3)]; rfl
  · rw [if_neg (by rw [← hn]; exact fun h => h h3)]
    exact c27_loop (hA.keep K) hn hb hb0 ⟨rfl, K⟩ n 0 (Nat.zero_add _) rfl
end
end Go.Zt

