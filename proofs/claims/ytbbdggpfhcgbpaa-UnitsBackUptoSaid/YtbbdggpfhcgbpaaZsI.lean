/- The abstract machine 'Sim': what lies below the floor stays. -/
import Derived.Test.YtbbdggpfhcgbpaaZsH
set_option linter.unusedSimpArgs false
set_option linter.unusedVariables false
namespace Go.Sim
open Go Go.RowKit

section
variable {P : Program}

structure FR (M M' : Mem) : Prop where
  floor : M'.floor = M.floor
  base : M'.base = M.base
  size : M.nb.size ≤ M'.nb.size
  keep : ∀ j, j < M.floor → M'.nb[j]? = M.nb[j]?
theorem FR.refl (M : Mem) : FR M M := ⟨rfl, rfl, Nat.le_refl _, fun _ _ => rfl⟩
theorem FR.trans {M1 M2 M3 : Mem} (h : FR M1 M2) (k : FR M2 M3) : FR M1 M3 :=
  ⟨k.floor.trans h.floor, k.base.trans h.base, Nat.le_trans h.size k.size, fun j hj => (k.keep j (by rw [h.floor]; exact hj)).trans (h.keep j hj)⟩
theorem FR.new {M : Mem} (b : Blk) (h : M.floor ≤ M.nb.size) : FR M (M.new b) :=
  ⟨rfl, rfl, by simp [Mem.new], fun j hj => by simp only [Mem.new, Array.getElem?_push]; rw [if_neg (by omega)]⟩
theorem FR.put {M M' : Mem} {blk off : Nat} {u : Value} (h : M.put blk off u = some M') : FR M M' := by
  have hs := Mem.put_same h
  unfold Mem.put at h
  split at h
  · cases h
  · split at h
    · cases h
    · rename_i hf
      split at h
      · split at h
        · split at h
          · obtain rfl := Option.some.inj h
            exact ⟨rfl, rfl, by simp, fun j hj => by simp only [Array.getElem?_setIfInBounds]; rw [if_neg (by omega)]⟩
          · cases h
        · cases h
      · cases h
theorem FR.putN : ∀ {l : List Value} {M M' : Mem} {blk off : Nat}, M.putN blk off l = some M' → FR M M'
  | [], M, M', _, _, h => by simp only [Mem.putN, Option.some.injEq] at h; subst h; exact FR.refl _
  | u :: l, M, M', blk, off, h => by
    simp only [Mem.putN] at h
    obtain ⟨M1, h1, h⟩ := Option.bind_eq_some_iff.1 h
    exact (FR.put h1).trans (FR.putN h)
theorem FR.leave {M M1 : Mem} {sa : Option Addr} {e : TypeId} {far : Nat} {new : List Value} (h : M.leave sa e far new = some M1) : FR M M1 := by
  rcases leave_cases h with ⟨rfl, _⟩ | ⟨a, cs, _, _, _, _, _, hf, rfl⟩
  · exact FR.refl _
  · exact ⟨rfl, rfl, by simp, fun j hj => by simp only [Array.getElem?_setIfInBounds]; rw [if_neg (by omega)]⟩

theorem FR.append {argTypes : Array TypeId} {s x u : Value} {M M' : Mem} (hf : M.floor ≤ M.nb.size) (h : appendP P argTypes s x M = some (u, M')) : FR M M' := by
  unfold appendP at h
  split at h
  case h_2 => cases h
  replace h := Option.bind_eq_some_iff.1 h; obtain ⟨i, hi, h⟩ := h
  replace h := Option.bind_eq_some_iff.1 h; obtain ⟨z, hz, h⟩ := h
  split at h
  case isFalse => cases h
  replace h := Option.bind_eq_some_iff.1 h; obtain ⟨new, hnew, h⟩ := h
  split at h
  · split at h
    · split at h
      · simp only [Option.some.injEq, Prod.mk.injEq] at h
        obtain ⟨_, rfl⟩ := h
        exact FR.refl _
      · cases h
    · obtain ⟨M1, hput, h⟩ := Option.map_eq_some_iff.1 h
      simp only [Prod.mk.injEq] at h
      obtain ⟨_, rfl⟩ := h
      exact FR.putN hput
  · split at h
    · replace h := Option.bind_eq_some_iff.1 h; obtain ⟨old, hold, h⟩ := h
      replace h := Option.bind_eq_some_iff.1 h; obtain ⟨M1, hM1, h⟩ := h
      simp only [Option.some.injEq, Prod.mk.injEq] at h
      obtain ⟨_, rfl⟩ := h
      have h1 := FR.leave hM1
      exact h1.trans (FR.new _ (by rw [h1.floor]; exact Nat.le_trans hf h1.size))
    · cases h

theorem FR.memOp {ρ : Operand → Value} {M M' : Mem} {o : Op} {u : Value} (hf : M.floor ≤ M.nb.size) (h : memOp P ρ M o = some (u, M')) : FR M M' := by
  unfold Sim.memOp at h
  split at h
  · obtain ⟨z, hz, h⟩ := Option.map_eq_some_iff.1 h
    simp only [Prod.mk.injEq] at h
    obtain ⟨_, rfl⟩ := h
    exact FR.new _ hf
  · simp only [Option.some.injEq, Prod.mk.injEq] at h
    obtain ⟨_, rfl⟩ := h
    exact FR.new _ hf
  · split at h
    case h_2 => cases h
    replace h := Option.bind_eq_some_iff.1 h; obtain ⟨size, hsize, h⟩ := h
    replace h := Option.bind_eq_some_iff.1 h; obtain ⟨z, hz, h⟩ := h
    split at h
    case isFalse => cases h
    obtain ⟨cs, hcs, h⟩ := Option.bind_eq_some_iff.1 h
    simp only [Option.some.injEq, Prod.mk.injEq] at h
    obtain ⟨_, rfl⟩ := h
    exact FR.new _ hf
  · split at h
    case h_2 => cases h
    obtain ⟨v, hv, h⟩ := Option.map_eq_some_iff.1 h
    simp only [Prod.mk.injEq] at h
    obtain ⟨_, rfl⟩ := h
    exact FR.refl _
  · split at h
    case h_2 => cases h
    replace h := Option.bind_eq_some_iff.1 h; obtain ⟨k, hk, h⟩ := h
    split at h
    case isFalse => cases h
    obtain ⟨M1, hput, h⟩ := Option.map_eq_some_iff.1 h
    simp only [Prod.mk.injEq] at h
    obtain ⟨_, rfl⟩ := h
    exact FR.putN hput
  · unfold makeP at h
    split at h
    case h_2 => cases h
    replace h := Option.bind_eq_some_iff.1 h; obtain ⟨i, hi, h⟩ := h
    replace h := Option.bind_eq_some_iff.1 h; obtain ⟨z, hz, h⟩ := h
    split at h
    case isFalse => cases h
    simp only [Option.some.injEq, Prod.mk.injEq] at h
    obtain ⟨_, rfl⟩ := h
    exact FR.new _ hf
  · split at h
    case h_2 => cases h
    exact FR.append hf h
  · split at h
    case h_2 => cases h
    unfold copyP at h
    split at h
    case h_2 => cases h
    replace h := Option.bind_eq_some_iff.1 h; obtain ⟨size, hsize, h⟩ := h
    replace h := Option.bind_eq_some_iff.1 h; obtain ⟨l, hl, h⟩ := h
    obtain ⟨M1, hput, h⟩ := Option.map_eq_some_iff.1 h
    simp only [Prod.mk.injEq] at h
    obtain ⟨_, rfl⟩ := h
    exact FR.putN hput
  · cases h

def Kept (call : CallM) : Prop := ∀ f args M v M', M.floor ≤ M.nb.size → call f args M = some (v, M') → FR M M'

theorem FR.step {call : CallM} (hc : Kept call) {ops : Array Oper} {o : Oper} {t t1 : Array Value} {M M1 : Mem} (hf : M.floor ≤ M.nb.size) (h : stepOp P call ops o t M = some (t1, M1)) : FR M M1 := by
  unfold stepOp at h
  split at h
  · split at h
    · obtain ⟨d, hd, h⟩ := Option.bind_eq_some_iff.1 h
      unfold op0 at hd
      split at hd
      · simp only [Option.some.injEq] at hd
        subst hd
        simp only [Option.some.injEq, Prod.mk.injEq] at h
        obtain ⟨_, rfl⟩ := h
        exact FR.refl _
      · obtain ⟨u, hu, rfl⟩ := Option.map_eq_some_iff.1 hd
        simp only [Option.some.injEq, Prod.mk.injEq] at h
        obtain ⟨_, rfl⟩ := h
        exact FR.refl _
      · obtain ⟨r, hr, rfl⟩ := Option.map_eq_some_iff.1 hd
        simp only [Option.some.injEq, Prod.mk.injEq] at h
        obtain ⟨_, rfl⟩ := h
        exact FR.memOp (u := r.1) hf hr
      · obtain ⟨r, hr, rfl⟩ := Option.map_eq_some_iff.1 hd
        obtain ⟨r2, hr2, h⟩ := Option.bind_eq_some_iff.1 h
        simp only [Option.some.injEq, Prod.mk.injEq] at h
        obtain ⟨_, rfl⟩ := h
        exact hc _ _ _ r2.1 r2.2 hf hr2
    · cases h
  · simp only [Option.some.injEq, Prod.mk.injEq] at h
    obtain ⟨_, rfl⟩ := h
    exact FR.refl _

theorem Kept.floored {call : CallM} (hc : Kept call) : Kept (floored call) := by
  intro f args M v M' hf h
  unfold Sim.floored at h
  obtain ⟨r, hr, h⟩ := Option.map_eq_some_iff.1 h
  simp only [Prod.mk.injEq] at h
  obtain ⟨rfl, rfl⟩ := h
  have := hc f args { M with floor := M.nb.size } r.1 r.2 (Nat.le_refl _) hr
  exact ⟨rfl, this.base, this.size, fun j hj => this.keep j (show j < M.nb.size by omega)⟩
theorem Kept.at_ {call : CallM} (hc : Kept call) (ops : Array Oper) (i : Nat) : Kept (callAt call ops i) := by
  unfold callAt; split
  · exact hc.floored
  · exact hc

theorem FR.ops {call : CallM} (hc : Kept call) {ops : Array Oper} : ∀ (r : List Oper) {t t1 : Array Value} {M M1 : Mem}, M.floor ≤ M.nb.size → runOps P call ops r t M = some (t1, M1) → FR M M1
  | [], t, t1, M, M1, hf, h => by
    simp only [runOps, Option.some.injEq, Prod.mk.injEq] at h
    obtain ⟨_, rfl⟩ := h
    exact FR.refl _
  | o :: r, t, t1, M, M1, hf, h => by
    simp only [runOps] at h
    obtain ⟨s, hs, h⟩ := Option.bind_eq_some_iff.1 h
    have h1 := FR.step hc hf (t1 := s.1) (M1 := s.2) hs
    exact h1.trans (FR.ops hc r (by rw [h1.floor]; exact Nat.le_trans hf h1.size) h)
theorem FR.ixs {call : CallM} (hc : Kept call) {ops : Array Oper} : ∀ (r : List Nat) {rd : Seen} {t t1 : Array Value} {M M1 : Mem}, M.floor ≤ M.nb.size → runIxs P call ops r rd t M = some (t1, M1) → FR M M1
  | [], rd, t, t1, M, M1, hf, h => by
    simp only [runIxs, Option.some.injEq, Prod.mk.injEq] at h
    obtain ⟨_, rfl⟩ := h
    exact FR.refl _
  | i :: r, rd, t, t1, M, M1, hf, h => by
    simp only [runIxs] at h
    split at h
    · split at h
      case isFalse => cases h
      obtain ⟨s, hs, h⟩ := Option.bind_eq_some_iff.1 h
      have h1 := FR.step (hc.at_ ops i) hf (t1 := s.1) (M1 := s.2) hs
      exact h1.trans (FR.ixs hc r (by rw [h1.floor]; exact Nat.le_trans hf h1.size) h)
    · cases h
theorem FR.region {call : CallM} (hc : Kept call) {ops : Array Oper} {draw : Bool} {t t1 : Array Value} {M M1 : Mem} (hf : M.floor ≤ M.nb.size) (h : runRegion P call ops draw t M = some (t1, M1)) : FR M M1 := by
  unfold runRegion at h
  split at h
  · split at h
    · exact FR.ixs hc _ hf h
    · cases h
  · exact FR.ops hc _ hf h

def KeptRun (self : Code → Run) : Prop := ∀ c t M e t' M', M.floor ≤ M.nb.size → self c t M = some (e, t', M') → FR M M'
theorem FR.code {call : CallM} (hc : Kept call) {self : Code → Run} (hs : KeptRun self) : KeptRun (runCode P call self) := by
  intro c
  induction c with
  | skip => intro t M e t' M' hf h; simp only [runCode, Option.some.injEq, Prod.mk.injEq] at h; obtain ⟨_, _, rfl⟩ := h; exact FR.refl _
  | label l => intro t M e t' M' hf h; simp only [runCode, Option.some.injEq, Prod.mk.injEq] at h; obtain ⟨_, _, rfl⟩ := h; exact FR.refl _
  | exit id => intro t M e t' M' hf h; simp only [runCode, Option.some.injEq, Prod.mk.injEq] at h; obtain ⟨_, _, rfl⟩ := h; exact FR.refl _
  | ret => intro t M e t' M' hf h; simp only [runCode, Option.some.injEq, Prod.mk.injEq] at h; obtain ⟨_, _, rfl⟩ := h; exact FR.refl _
  | region id ops draw =>
    intro t M e t' M' hf h
    simp only [runCode] at h
    obtain ⟨r, hr, h⟩ := Option.map_eq_some_iff.1 h
    simp only [Prod.mk.injEq] at h
    obtain ⟨_, _, rfl⟩ := h
    exact FR.region hc hf (t1 := r.1) hr
  | seq a b iha ihb =>
    intro t M e t' M' hf h
    simp only [runCode] at h
    obtain ⟨r, hr, h⟩ := Option.bind_eq_some_iff.1 h
    have h1 := iha t M r.1 r.2.1 r.2.2 hf hr
    split at h
    · exact h1.trans (ihb _ _ _ _ _ (by rw [h1.floor]; exact Nat.le_trans hf h1.size) h)
    · obtain rfl := Option.some.inj h; exact h1
  | cond c a b iha ihb =>
    intro t M e t' M' hf h
    simp only [runCode] at h
    split at h
    · split at h
      · exact iha _ _ _ _ _ hf h
      · exact ihb _ _ _ _ _ hf h
      · cases h
    · cases h
  | block id a iha =>
    intro t M e t' M' hf h
    simp only [runCode] at h
    obtain ⟨r, hr, h⟩ := Option.map_eq_some_iff.1 h
    have h1 := iha t M r.1 r.2.1 r.2.2 hf hr
    split at h
    · split at h
      · simp only [Prod.mk.injEq] at h; obtain ⟨_, _, rfl⟩ := h; exact h1
      · subst h; exact h1
    · subst h; exact h1
  | loop a iha =>
    intro t M e t' M' hf h
    simp only [runCode] at h
    obtain ⟨r, hr, h⟩ := Option.bind_eq_some_iff.1 h
    have h1 := iha t M r.1 r.2.1 r.2.2 hf hr
    split at h
    · exact h1.trans (hs _ _ _ _ _ _ (by rw [h1.floor]; exact Nat.le_trans hf h1.size) h)
    · obtain rfl := Option.some.inj h; exact h1
  | rangeFunc => intro t M e t' M' hf h; simp [runCode] at h
  | scope a iha =>
    intro t M e t' M' hf h
    simp only [runCode] at h
    obtain ⟨r, hr, h⟩ := Option.bind_eq_some_iff.1 h
    have h1 := iha t M r.1 r.2.1 r.2.2 hf hr
    split at h
    · cases h
    · obtain rfl := Option.some.inj h; exact h1
  | goto => intro t M e t' M' hf h; simp [runCode] at h
  | refuse => intro t M e t' M' hf h; simp [runCode] at h
theorem FR.enter {call : CallM} (hc : Kept call) {self : Code → Run} (hs : KeptRun self) : Kept (enter P self call) := by
  intro f args M v M' hf h
  unfold Sim.enter at h
  split at h
  · split at h
    · obtain ⟨r, hr, h⟩ := Option.bind_eq_some_iff.1 h
      have h1 := FR.code (P := P) hc hs _ _ _ r.1 r.2.1 r.2.2 hf hr
      split at h
      · obtain ⟨x, hx, h⟩ := Option.map_eq_some_iff.1 h
        simp only [Prod.mk.injEq] at h; obtain ⟨_, rfl⟩ := h; exact h1
      · obtain ⟨x, hx, h⟩ := Option.map_eq_some_iff.1 h
        simp only [Prod.mk.injEq] at h; obtain ⟨_, rfl⟩ := h; exact h1
      · cases h
    · cases h
  · cases h
theorem lev_kept : ∀ k, KeptRun (lev P k).1 ∧ Kept (lev P k).2
  | 0 => ⟨fun c t M e t' M' hf h => by simp [lev] at h, fun f args M v M' hf h => by simp [lev] at h⟩
  | k + 1 => by
    obtain ⟨h1, h2⟩ := lev_kept k
    exact ⟨FR.code h2 h1, FR.enter h2 h1⟩

end
end Go.Sim
