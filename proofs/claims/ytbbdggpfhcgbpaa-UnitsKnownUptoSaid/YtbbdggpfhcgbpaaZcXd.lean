/- Layer 19: a body of 2^24 bytes is put behind a piece's head. -/
import Derived.Test.YtbbdggpfhcgbpaaZcXa
set_option maxRecDepth 100000
namespace Go.Zt
open Go Go.Sim Go.Proofs Go.RowKit
theorem cellsN_rep {M : Mem} {blk : Nat} {z : Value} : ∀ {n off : Nat}, (∀ i, i < n → M.cell blk (off + i) = some z) → M.cellsN blk off n = some (List.replicate n z)
  | 0, _, _ => rfl
  | n + 1, off, h => by
    simp only [Mem.cellsN]
    rw [show M.cell blk off = some z from h 0 (by omega), cellsN_rep fun i hi => by rw [show off + 1 + i = off + (i + 1) by omega]; exact h (i + 1) (by omega)]
    rfl
theorem all_rep {z : Value} (h : oneCell z = true) : ∀ n, (List.replicate n z).all oneCell = true := by
  intro n; rw [List.all_eq_true]; intro x hx; rw [List.eq_of_mem_replicate hx]; exact h
theorem app_big {P : Program} {tys : Array TypeId} {e e2 : TypeId} {i : _} {z : Value} {M M' : Mem} {sa xa : Option Addr} {n c k kc : Nat} {new old : List Value}
    (h1 : (tys[0]?).bind P.underlying = some (.slice e)) (h2 : (tys[1]?).bind P.underlying = some (.slice e2)) (hi : P.info? e = some i) (hz : i.zero = some z)
    (hz1 : z.cells.size = 1) (hs : i.size = 1) (hb : i.bytes = 1) (hn : M.src xa k = some new) (hc : c < n + k) (hk : n + k ≤ 140737488355328)
    (ho : M.src sa n = some old) (hl : M.leave sa e c new = some M') :
    appendP P tys (.slice sa n c) (.slice xa k kc) M = some (.slice (some ⟨2 * M.nb.size, 0, some 0⟩) (n + k) (n + k), M'.new (.cells (old ++ new).toArray e)) := by
  unfold appendP
  have hs' : z.cells.size = i.size ∧ 0 < i.size ∧ 0 < i.bytes ∧ i.bytes ≤ 1048576 := by rw [hs, hb]; exact ⟨hz1, by decide, by decide, by decide⟩
  rw [hs, hb] at hs'
  simp only [h1, h2, hi, hz, Option.bind_some, hs, hb, if_pos hs', Nat.mul_one, hn, if_neg (Nat.not_le.2 hc), if_pos hk, ho, hl]
theorem big_cell (j : Nat) (hj : j < 16777216) : (zeroRow #[Value.int .u8 0] 16777217)[j]? = some (.int .u8 0) := by
  have h : j < 16777217 := by omega
  simp [zeroRow, List.getElem?_range, h, Nat.mod_one]
def mB (b : Array Obj) : Mem := ⟨b, #[k0, k1, k2, k3, k4, k5, k6, k4, k3, k3, k3, k7, k4, k8, k9, k7, k10, k11, k12, k4, k13, k14, k4, k12, k12, k12, k7, k7, k15, k16, k7, k4, k17, k7, k18, k19, k7, k7, k20, k19, k7, k7, k21, k19, k7, k4, k22, k23, k7, k24, k25, k7, k4, k26, k27, k7, k28, k16, k7, k4, k29, k30, k7, k31, k19, k7, k4, k32, k33, k7, k34, k16, k7, k4, k35, k36, k7, k37, k38, k39, k4, k40, k41, k4, k42, k39, k39, .dead, k43, k4, k44, k45, k4, k43, k43, .dead, k46, k4, k47, k48, k4, k46, k46, k49, k50, k51, k52, k55, k47, .dead, k47, k56, k4, k56, .dead, k57, k60, k47, .dead, k47, .dead, k47, k61, k4, k61, .dead, k63, k7, k7, k64, k65, k67, k47, .dead, k47, k68, k4, k68, k68, k69, kB0, k70, k70, k71, k70, k72, k72, k75, k47, .dead, k47, .dead, k47, .dead, k47, .dead, k47, k76, k4, k76, k76], 0⟩
def nB (b : Array Obj) : Mem := ⟨b, #[k0, k1, k2, k3, k4, k5, k6, k4, k3, k3, k3, k7, k4, k8, k9, k7, k10, k11, k12, k4, k13, k14, k4, k12, k12, k12, k7, k7, k15, k16, k7, k4, k17, k7, k18, k19, k7, k7, k20, k19, k7, k7, k21, k19, k7, k4, k22, k23, k7, k24, k25, k7, k4, k26, k27, k7, k28, k16, k7, k4, k29, k30, k7, k31, k19, k7, k4, k32, k33, k7, k34, k16, k7, k4, k35, k36, k7, k37, k38, k39, k4, k40, k41, k4, k42, k39, k39, .dead, k43, k4, k44, k45, k4, k43, k43, .dead, k46, k4, k47, k48, k4, k46, k46, k49, k50, k51, k52, k55, k47, .dead, k47, k56, k4, k56, .dead, k57, k60, k47, .dead, k47, .dead, k47, k61, k4, k61, .dead, k63, k7, k7, k64, k65, k67, k47, .dead, k47, k68, k4, k68, k68, k69, kB0, k70, k70, k71, k70, k72, k72, k75, k47, .dead, k47, .dead, k47, .dead, k47, .dead, k47, k76, k4, k76, .dead, kB1], 0⟩
theorem mB_at (b : Array Obj) : (mB b).nb[140]? = some kB0 := by kernel_rfl
theorem src_big (b : Array Obj) : (mB b).src (some ⟨280, 0, none⟩) 16777216 = some (List.replicate 16777216 (.int .u8 0)) := by
  show (mB b).cellsN 280 0 16777216 = _
  refine cellsN_rep fun i hi => ?_
  have h := mB_at b
  unfold Mem.cell
  rw [if_neg (by decide), show 280 / 2 = 140 from rfl, h]
  show (zeroRow #[Value.int .u8 0] 16777217)[0 + i]? = _
  rw [Nat.zero_add]; exact big_cell i hi
theorem bigApp1 (b : Array Obj) : appendP Try.prog #[22, 22] (.slice (some ⟨320, 0, some 0⟩) 5 5) (.slice (some ⟨280, 0, none⟩) 16777216 16777217) (mB b) = some (.slice (some ⟨322, 0, some 0⟩) 16777221 16777221, nB b) := by
  have hl : (mB b).leave (some ⟨320, 0, some 0⟩) 5 5 (List.replicate 16777216 (.int .u8 0)) = (mB b).kill 160 := by
    have h160 : (mB b).nb[320 / 2]? = some k76 := by kernel_rfl
    unfold Mem.leave
    have hf : ¬ (320 % 2 = 1 ∨ (some 0 : Option Nat) = none) := by decide
    dsimp only
    rw [if_neg hf]
    rw [h160]
    unfold k76
    dsimp only
    rw [if_pos ⟨rfl, by decide, all_rep rfl _⟩]
  have lt : 5 < 5 + 16777216 := Nat.le_of_ble_eq_true rfl
  have le : 5 + 16777216 ≤ 140737488355328 := Nat.le_of_ble_eq_true rfl
  have ho : (mB b).src (some ⟨320, 0, some 0⟩) 5 = some [.int .u8 48, .int .u8 128, .int .u8 128, .int .u8 128, .int .u8 8] := by kernel_rfl
  have hl2 : (mB b).leave (some ⟨320, 0, some 0⟩) 5 5 (List.replicate 16777216 (.int .u8 0)) = some ⟨b, (mB b).nb.setIfInBounds 160 .dead, 0⟩ := hl.trans (by kernel_rfl)
  have hi : (Try.prog.info? 5).map (fun i => (i.zero, i.size, i.bytes)) = some (some (.int .u8 0), 1, 1) := by kernel_rfl
  obtain ⟨i, hi, e⟩ := Option.map_eq_some_iff.1 hi
  have hz : i.zero = some (.int .u8 0) := congrArg (·.1) e
  have hs : i.size = 1 := congrArg (·.2.1) e
  have hb : i.bytes = 1 := congrArg (·.2.2) e
  have := app_big (tys := #[22, 22]) (e := 5) (e2 := 5) (kc := 16777217) (by kernel_rfl) (by kernel_rfl) hi hz rfl hs hb (src_big b) lt le ho hl2
  refine this.trans ?_
  kernel_rfl
end Go.Zt
