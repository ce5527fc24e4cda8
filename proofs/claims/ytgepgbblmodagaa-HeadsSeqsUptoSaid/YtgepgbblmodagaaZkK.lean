/- Layer 1: the document's writers. -/
import Derived.Test.YtgepgbblmodagaaZkJ
set_option linter.unusedSimpArgs false
set_option linter.unusedVariables false
namespace Go.Zt
open Go Go.Sim Go.Proofs Go.RowKit

structure Wf (S : Nat → Prop) (M : Mem) (j : Nat) (w : List Nat) : Prop where
  out : ¬ S j
  bin : Bin w
  len : w.length ≤ 100000000000
  ex : ∃ A c, M.nb[j]? = some (.cells #[.slice A w.length c] 83) ∧ Own S M 3 A c (N64 w) ∧ w.length ≤ c
theorem Wf.chg {S : Nat → Prop} {T : Nat → Prop} {M M' : Mem} {j : Nat} {w : List Nat} (h : Wf S M j w) (k : Chg T M M') (hT : ∀ i, i < M.nb.size → S i ∨ i = j → ¬ T i) : Wf S M' j w := by
  obtain ⟨A, c, h1, h2, h3⟩ := h.ex
  exact ⟨h.out, h.bin, h.len, A, c, at_chg h1 k (hT j (lt_of_at h1) (.inr rfl)), h2.chg k fun i hi hs => hT i hi (.inl hs), h3⟩
theorem Wf.keep {S : Nat → Prop} {M M' : Mem} {j : Nat} {w : List Nat} (h : Wf S M j w) (k : Keep M M') : Wf S M' j w := h.chg k fun _ _ _ x => x
/-- One bit is appended. -/
theorem Wf.push {S : Nat → Prop} {j : Nat} {M : Mem} {w : List Nat} (hf : Fl S M j) (h : Wf S M j w) {x : Nat} (hx : x < 2) (hl : w.length ≤ 95000000000) :
    ∃ A c, M.slAt (2 * j) 0 = some (A, w.length, c) ∧ ∃ A' c' M1, appendP Try.prog #[81, 81] (.slice A w.length c) (.slice (some ⟨2 * M.nb.size, 0, none⟩) 1 1) (M.new (.cells #[.int .i64 (x : Nat)] 3)) = some (.slice A' (w.length + 1) c', M1) ∧
      ∃ M2, M1.put (2 * j) 0 (.slice A' (w.length + 1) c') = some M2 ∧ Chg (fun i => S i ∨ i = j) M M2 ∧ Wf S M2 j (w ++ [x]) := by
  obtain ⟨A, c, g1, g2, g3⟩ := h.ex
  have hjl := lt_of_at g1
  have hfj : M.floor ≤ j := hf.fl j (.inr rfl)
  obtain ⟨A', c', M1, p1, p2, p3, p4⟩ := app1S el3 g2 (n := w.length) (by simp) (v := .int .i64 (x : Nat)) (fun i hi => hf.fl i (.inl hi)) (hf.nw _ (Nat.le_refl _)) (hf.nw _ (Nat.le_succ _)) rfl (by omega)
  have q1 := at_chg g1 p2 h.out
  have hf1 : M1.floor ≤ j := by rw [p2.floor]; exact hfj
  have P1 := put_of (i := 0) (v := .slice A' (w.length + 1) c') q1 hf1 (by simp) rfl
  have C1 : Chg (· = j) M1 (M1.upd j (.cells ((#[.slice A w.length c] : Array Value).setIfInBounds 0 (.slice A' (w.length + 1) c')) 83)) := upd_chg rfl
  refine ⟨A, c, sl_of g1 rfl, A', c', M1, p1, _, P1, (p2.mono fun i _ hi => .inl hi).trans (C1.mono fun i _ hi => .inr hi), h.out, bin_append h.bin (fun y hy => by simp at hy; omega), by simp; omega, A', c', ?_, ?_, by simpa using p4⟩
  · rw [upd_at (lt_of_at q1)]; simp
  · have e : N64 (w ++ [x]) = N64 w ++ [Value.int .i64 (x : Nat)] := by simp
    rw [e]; exact p3.chg C1 fun i _ hs he => h.out (he ▸ hs)
section
variable {S : Nat → Prop} {j : Nat} {M : Mem} {w : List Nat}
end
end Go.Zt

