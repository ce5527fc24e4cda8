/- The abstract machine 'Sim': operations on the memory. -/
import Derived.Test.YtbbdggpfhcgbpaaZsE
set_option linter.unusedSimpArgs false
set_option linter.unusedVariables false
namespace Go.Sim
open Go Go.RowKit

section
variable {P : Program} {m : Nat → Loc}

theorem grow_le (newLen : Nat) : ∀ (r c : Nat), c ≤ newLen + (newLen + 768) / 4 → Builtin.growBy newLen r c ≤ newLen + (newLen + 768) / 4
  | 0, c, h => h
  | r + 1, c, h => by
    unfold Builtin.growBy
    split
    · exact h
    · exact grow_le newLen r _ (by omega)
theorem next_le (need C bytes : Nat) (h1 : C < need) (h2 : need * bytes ≤ 140737488355328) (h3 : bytes ≤ 1048576) : Builtin.nextslicecap need C * bytes ≤ 281474976710656 := by
  have hx : Builtin.nextslicecap need C ≤ need + (need + 768) / 4 ∨ Builtin.nextslicecap need C ≤ 512 := by
    unfold Builtin.nextslicecap
    split
    · left; omega
    · split
      · right; omega
      · left; exact grow_le need 4 C (by omega)
  rcases hx with hx | hx
  · have a := Nat.mul_le_mul_right bytes hx
    have b : 4 * ((need + 768) / 4) ≤ need + 768 := by omega
    have c := Nat.mul_le_mul_right bytes b
    rw [Nat.mul_assoc] at c
    rw [Nat.add_mul] at a c
    omega
  · have a := Nat.mul_le_mul_right bytes hx
    omega

theorem info_run {t : TypeId} {i : TypeInfo} (h : P.info? t = some i) (w : World) : (typeInfo t).run P w = .ok i w := by simp [typeInfo, h]
theorem infoSize_run {t : TypeId} {i : TypeInfo} (h : P.info? t = some i) (w : World) : (sizeOf t).run P w = .ok i.size w := by simp [sizeOf, typeInfo, h]
theorem infoZero_run {t : TypeId} {i : TypeInfo} {z : Value} (h : P.info? t = some i) (hz : i.zero = some z) (w : World) : (zeroValue t).run P w = .ok z w := by simp [zeroValue, typeInfo, h, hz]

section append
variable {argTypes : Array TypeId} {ty st xt e e' : TypeId} {i : TypeInfo} {z : Value} {args : Array Value} {w w' : World} {A : Option Addr} {a : Addr} {n k C xc : Nat} {X : Option Addr} {new old : List Value}

theorem append_in (h0 : argTypes[0]? = some st) (hu : P.underlying st = some (.slice e)) (h1 : argTypes[1]? = some xt) (hxt : P.underlying xt = some (.slice e')) (hi : P.info? e = some i)
    (a0 : args[0]? = some (.slice (some a) n C)) (a1 : args[1]? = some (.slice X k xc)) (hnew : (Builtin.firstCells i.size k (.slice X k xc)).run P w = .ok new.toArray w) (hle : n + k ≤ C)
    (hst : (storeCells (a.add (n * i.size)) new 0).run P w = .ok () w') : (Builtin.append_ argTypes ty args).run P w = .ok (.slice (some a) (n + k) C) w' := by
  simp only [Builtin.append_, h0, a0, a1, h1, Sem.run_bind, run_underlying hu, run_underlying hxt, Result.andThen, infoSize_run hi, Builtin.lenOf, Sem.run_pure, Bool.false_eq_true, if_false, hle, if_true, Bool.not_false]
  simp [hnew, hst, Result.andThen]

theorem append_grow (h0 : argTypes[0]? = some st) (hu : P.underlying st = some (.slice e)) (h1 : argTypes[1]? = some xt) (hxt : P.underlying xt = some (.slice e')) (hi : P.info? e = some i) (hz : i.zero = some z)
    (hb : 0 < i.bytes) (hb' : i.bytes ≤ 1048576) (a0 : args[0]? = some (.slice A n C)) (a1 : args[1]? = some (.slice X k xc)) (hnc : C ≤ n + k) (hle : ¬ n + k ≤ C) (hroom : (n + k) * i.bytes ≤ 140737488355328)
    (hnew : ∀ d, (Builtin.firstCells i.size k (.slice X k xc)).run P { w with drawn := d } = .ok new.toArray { w with drawn := d }) (hold : ∀ d, (Builtin.firstCells i.size n (.slice A n C)).run P { w with drawn := d } = .ok old.toArray { w with drawn := d }) :
    ∃ cap, n + k ≤ cap ∧ (Builtin.append_ argTypes ty args).run P w =
      .ok (.slice (some ⟨w.heap.size, 0, none⟩) (n + k) cap) (({ w with drawn := w.drawn + 1 } : World).alloc (.cells (old.toArray ++ new.toArray ++ Builtin.zeroCells z.cells (cap - (n + k))) e)) := by
  refine ⟨(Question.appendCap (n + k) C e).cut (w.tape w.drawn (.appendCap (n + k) C e)), by simp [Question.cut], ?_⟩
  have hbig : ¬ (((n + k : Nat) : Int) > IntKind.i64.max ∧ (false = true ∨ i.bytes = 0)) := by rintro ⟨_, h | h⟩ <;> first | cases h | omega
  have hnext := next_le (n + k) C i.bytes (by omega) hroom hb'
  have hnext' : ¬ Builtin.nextslicecap (n + k) C * i.bytes > 2 ^ 48 := by
    have : (2 : Nat) ^ 48 = 281474976710656 := by decide
    omega
  have hnb : ¬ i.bytes = 0 := by omega
  simp only [Builtin.append_, h0, a0, a1, h1, Sem.run_bind, run_underlying hu, run_underlying hxt, Result.andThen, infoSize_run hi, Builtin.lenOf, Sem.run_pure, Bool.false_eq_true, if_false, hle, if_true, Bool.not_false,
    info_run hi, hnb, or_self, and_false, hnext', run_choose, Question.forced, run_askRoom, hnew, hold, infoZero_run hi hz, newRow, run_newObj]
  rfl
end append

theorem firstCells_run {M : Mem} {w : World} (h : HR P M m w) {xa : Option Addr} {k c xc size : Nat} {X : Option Addr} {new : List Value}
    (hx : VR M.nb.size m (.slice xa k c) (.slice X k xc)) (hn : M.src xa (k * size) = some new) :
    ∃ L, VRl M.nb.size m new L ∧ new.length = k * size ∧ (∀ d, (Builtin.firstCells size k (.slice X k xc)).run P { w with drawn := d } = .ok L.toArray { w with drawn := d }) ∧ (Builtin.firstCells size k (.slice X k xc)).run P w = .ok L.toArray w := by
  suffices hs : ∃ L, VRl M.nb.size m new L ∧ new.length = k * size ∧ (∀ d, (Builtin.firstCells size k (.slice X k xc)).run P { w with drawn := d } = .ok L.toArray { w with drawn := d }) by
    obtain ⟨L, h1, h2, h3⟩ := hs
    exact ⟨L, h1, h2, h3, h3 w.drawn⟩
  have go : ∀ {blk off : Nat} {a : Addr}, AR M.nb.size m blk off a → M.cellsN blk off (k * size) = some new → X = some a → ∃ L, VRl M.nb.size m new L ∧ new.length = k * size ∧ (∀ d, (Builtin.firstCells size k (.slice X k xc)).run P { w with drawn := d } = .ok L.toArray { w with drawn := d }) := by
    intro blk off a ha hc hX
    subst hX
    obtain ⟨hl, _⟩ := h.cellsN _ ha hc
    obtain ⟨L, hL, hcs⟩ := (h.cellsN _ ha hc).2
    refine ⟨L, hL, hl, fun d => ?_⟩
    have e : L.length = k * size := by rw [← hL.1, hl]
    show (loadCells a (k * size)).run P _ = _
    rw [← e]
    exact run_loadCells_list _ a L hcs
  cases hx with
  | slNil =>
    simp only [Mem.src, Nat.zero_mul, if_true, Option.some.injEq] at hn
    subst hn
    exact ⟨[], VRl.nil, by simp, fun d => rfl⟩
  | slNew j o _ _ hj _ => exact go (.new _ _ hj) hn rfl
  | slOld b o _ _ _ => exact go (.old _ _) hn rfl
  | slLoose j o _ _ hj _ => exact go (.new _ _ hj) hn rfl
  | slOldE b o _ a =>
    simp only [Mem.src, Nat.zero_mul, Mem.cellsN, Option.some.injEq] at hn
    subst hn
    exact ⟨[], VRl.nil, by simp, fun d => by simp [Builtin.firstCells, loadCells, loadCellsFrom]⟩
  | slE j o sp a hj =>
    simp only [Mem.src, Nat.zero_mul, Mem.cellsN, Option.some.injEq] at hn
    subst hn
    exact ⟨[], VRl.nil, by simp, fun d => by simp [Builtin.firstCells, loadCells, loadCellsFrom]⟩

theorem leave_cases {M M1 : Mem} {sa : Option Addr} {e : TypeId} {far : Nat} {new : List Value} (h : M.leave sa e far new = some M1) :
    (M1 = M ∧ ∀ a, sa = some a → (a.block % 2 = 1 ∨ a.spot = none)) ∨
    (∃ a cs, sa = some a ∧ ¬ (a.block % 2 = 1 ∨ a.spot = none) ∧ M.nb[a.block / 2]? = some (.cells cs e) ∧ a.off + far ≤ cs.size ∧ new.all oneCell = true ∧ ¬ a.block / 2 < M.floor ∧ M1 = { M with nb := M.nb.setIfInBounds (a.block / 2) .dead }) := by
  cases sa with
  | none => simp only [Mem.leave, Option.some.injEq] at h; exact .inl ⟨h.symm, by simp⟩
  | some a =>
    simp only [Mem.leave] at h
    split at h
    · rename_i ht
      exact .inl ⟨(Option.some.inj h).symm, fun a' ha => by obtain rfl := Option.some.inj ha; exact ht⟩
    · rename_i ht
      split at h
      · rename_i cs e' hb
        split at h
        · rename_i hc
          obtain ⟨rfl, h2, h3⟩ := hc
          unfold Mem.kill at h
          split at h
          · cases h
          · rename_i hf
            exact .inr ⟨a, cs, rfl, ht, hb, h2, h3, hf, (Option.some.inj h).symm⟩
        · cases h
      · cases h

theorem zeroCells_size (z : Array Value) (k : Nat) : (Builtin.zeroCells z k).size = k * z.size := by simp [Builtin.zeroCells]

theorem slice_inv {n : Nat} {sa : Option Addr} {l c : Nat} {v : Value} (h : VR n m (.slice sa l c) v) : ∃ A C, v = .slice A l C ∧ c ≤ C ∧ l ≤ c ∧ (sa = none → A = none ∧ C = 0) ∧ (∀ a, sa = some a → A.isSome = true) := by
  cases h with
  | slNil => exact ⟨_, _, rfl, by omega, by omega, by simp, by simp⟩
  | slNew => exact ⟨_, _, rfl, by omega, by omega, by simp, by simp⟩
  | slOld => exact ⟨_, _, rfl, by omega, by omega, by simp, by simp⟩
  | slOldE => exact ⟨_, _, rfl, by omega, by omega, by simp, by simp⟩
  | slLoose => exact ⟨_, _, rfl, by omega, by omega, by simp, by simp⟩
  | slE => exact ⟨_, _, rfl, by omega, by omega, by simp, by simp⟩

theorem HR.adopt {M : Mem} {w : World} (h : HR P M m w) {B s e : Nat} {c C : Array Value} {t : TypeId} (hN : M.base.size ≤ B) (hC : w.heap[B]? = some (.cells C t (0, 0))) (hs : s + c.size + e * P.cellsOf t ≤ C.size)
    (hV : ∀ i (h1 : i < c.size) (h2 : s + i < C.size), VR M.nb.size m c[i] C[s + i]) (hfree : ∀ j b, M.nb[j]? = some b → b.live = true → (m j).B ≠ B) :
    HR P (M.new (.cells c t)) (upd m M.nb.size ⟨B, s, e⟩) w ∧ Ext M (M.new (.cells c t)) m (upd m M.nb.size ⟨B, s, e⟩) := by
  have hm : ∀ j, j < M.nb.size → upd m M.nb.size ⟨B, s, e⟩ j = m j := fun j hj => by simp [upd, Nat.ne_of_lt hj]
  have lt_of : ∀ {j : Nat} {b : Blk}, M.nb[j]? = some b → j < M.nb.size := by
    intro j b hj
    rcases Nat.lt_or_ge j M.nb.size with h' | h'
    · exact h'
    · rw [Array.getElem?_eq_none h'] at hj; cases hj
  refine ⟨⟨h.size, h.base, ?_, ?_⟩, ⟨rfl, rfl, by simp [Mem.new], hm⟩⟩
  · intro j b hj
    simp only [Mem.new, Array.getElem?_push] at hj
    simp only [Mem.new, Array.size_push]
    split at hj
    · rename_i hjn
      obtain rfl := Option.some.inj hj
      subst hjn
      simp only [upd, if_true]
      exact ⟨hN, C, hC, hs, fun i h1 h2 => (hV i h1 h2).mono (Nat.le_succ _) hm⟩
    · rw [hm j (lt_of hj)]
      exact (h.blk j b hj).mono (Nat.le_succ _) hm (fun _ => rfl)
  · intro i j a b hi hj ha hb hij
    simp only [Mem.new, Array.getElem?_push] at hi hj
    split at hi
    · rename_i hin
      split at hj
      · omega
      · rw [hm j (lt_of hj), hin]
        simp only [upd, if_true]
        exact (hfree j b hj hb).symm
    · split at hj
      · rename_i hjn
        rw [hm i (lt_of hi), hjn]
        simp only [upd, if_true]
        exact hfree i a hi ha
      · rw [hm i (lt_of hi), hm j (lt_of hj)]
        exact h.inj i j a b hi hj ha hb hij

theorem HR.row {M : Mem} {w : World} (h : HR P M m w) {B : Nat} (hN : M.base.size ≤ B) (C : Array Value) (hfree : ∀ j b, M.nb[j]? = some b → b.live = true → (m j).B ≠ B) :
    HR P M m (w.setRow B C) ∧ Below M.base.size w (w.setRow B C) := by
  refine ⟨⟨by simpa using h.size, fun b hb => ?_, fun j b hj => ?_, h.inj⟩, ⟨rfl, rfl, rfl, by simp, fun k hk => setRow_other w B k C (by omega)⟩⟩
  · rw [setRow_other w B b C (by omega)]; exact h.base b hb
  · exact (h.blk j b hj).mono (Nat.le_refl _) (fun _ _ => rfl) (fun hl => setRow_other w B _ C (hfree j b hj hl))

theorem set_dead {nb : Array Blk} {j q : Nat} {b : Blk} (h : (nb.setIfInBounds j .dead)[q]? = some b) (hb : b.live = true) : j ≠ q ∧ nb[q]? = some b := by
  rw [Array.getElem?_setIfInBounds] at h
  by_cases hj : j = q
  · rw [if_pos hj] at h
    by_cases hlt : j < nb.size
    · rw [if_pos hlt] at h
      rw [← Option.some.inj h] at hb
      cases hb
    · rw [if_neg hlt] at h; cases h
  · rw [if_neg hj] at h; exact ⟨hj, h⟩

theorem appendP_sim {M M' : Mem} {w : World} (h : HR P M m w) {argTypes : Array TypeId} {ty : TypeId} {args : Array Value} {s x s' x' u : Value}
    (hs : VR M.nb.size m s s') (hx : VR M.nb.size m x x') (a0 : args[0]? = some s') (a1 : args[1]? = some x') (ha : appendP P argTypes s x M = some (u, M')) :
    ∃ m' w' v, (Builtin.append_ argTypes ty args).run P w = .ok v w' ∧ VR M'.nb.size m' u v ∧ HR P M' m' w' ∧ Ext M M' m m' ∧ Below M.base.size w w' := by
  unfold appendP at ha
  split at ha
  case h_2 => cases ha
  rename_i e e1 sa n c xa k xc hst hxt
  obtain ⟨st, h0, hu⟩ := Option.bind_eq_some_iff.1 hst
  obtain ⟨xt, h1, hxu⟩ := Option.bind_eq_some_iff.1 hxt
  replace ha := Option.bind_eq_some_iff.1 ha; obtain ⟨i, hi, ha⟩ := ha
  replace ha := Option.bind_eq_some_iff.1 ha; obtain ⟨z, hz, ha⟩ := ha
  by_cases hcond : z.cells.size = i.size ∧ 0 < i.size ∧ 0 < i.bytes ∧ i.bytes ≤ 1048576
  case neg => rw [if_neg hcond] at ha; cases ha
  rw [if_pos hcond] at ha
  obtain ⟨hzs, hsz0, hb0, hb1⟩ := hcond
  replace ha := Option.bind_eq_some_iff.1 ha; obtain ⟨new, hnew, ha⟩ := ha
  obtain ⟨X, XC, rfl, _, hkx, _, _⟩ := slice_inv hx
  obtain ⟨A, C, rfl, hcC, hnc, hAn, hAs⟩ := slice_inv hs
  obtain ⟨L, hL, hLlen, hLd, hLr⟩ := firstCells_run h hx hnew
  have empty : k = 0 → new = [] ∧ L = [] := fun hk => by
    have : new.length = 0 := by rw [hLlen, hk, Nat.zero_mul]
    have h0 := List.length_eq_zero_iff.1 this
    exact ⟨h0, List.length_eq_zero_iff.1 (by rw [← hL.1, h0]; rfl)⟩
  by_cases hle : n + k ≤ c
  · -- in place
    rw [if_pos hle] at ha
    cases sa with
    | none =>
      simp only at ha
      by_cases hk : k = 0
      · rw [if_pos hk] at ha
        simp only [Option.some.injEq, Prod.mk.injEq] at ha
        obtain ⟨rfl, rfl⟩ := ha
        obtain ⟨hA, hC⟩ := hAn rfl
        subst hA; subst hC
        subst hk
        have hn0 : n = 0 := by omega
        have hc0 : c = 0 := by omega
        subst hn0; subst hc0
        obtain ⟨_, rfl⟩ := empty rfl
        refine ⟨m, w, .slice none 0 0, ?_, .slNil, h, Ext.refl _ _, Below.refl _ _⟩
        simp only [Builtin.append_, h0, a0, a1, h1, Sem.run_bind, run_underlying hu, run_underlying hxu, Result.andThen, infoSize_run hi, Builtin.lenOf, Sem.run_pure, Bool.false_eq_true, if_false, Nat.le_refl, if_true, Bool.not_false, Nat.add_zero]
        simp [hLr, Result.andThen]
      · rw [if_neg hk] at ha; cases ha
    | some a =>
      simp only at ha
      obtain ⟨M1, hput, ha⟩ := Option.map_eq_some_iff.1 ha
      simp only [Prod.mk.injEq] at ha
      obtain ⟨rfl, rfl⟩ := ha
      obtain ⟨e1', e2', e3'⟩ := Mem.putN_same hput
      have hext : Ext M M1 m m := ⟨e1', e2', by omega, fun _ _ => rfl⟩
      have main : ∀ (a' : Addr), A = some a' → (∃ w', (storeCells (a'.add (n * i.size)) L 0).run P w = .ok () w' ∧ HR P M1 m w' ∧ Below M.base.size w w') → VR M.nb.size m (.slice (some a) (n + k) c) (.slice (some a') (n + k) C) →
          ∃ m' w' v, (Builtin.append_ argTypes ty args).run P w = .ok v w' ∧ VR M1.nb.size m' (.slice (some a) (n + k) c) v ∧ HR P M1 m' w' ∧ Ext M M1 m m' ∧ Below M.base.size w w' := by
        intro a' hA hw hv
        subst hA
        obtain ⟨w', hr, hH, hB⟩ := hw
        exact ⟨m, w', _, append_in h0 hu h1 hxu hi a0 a1 hLr (by omega) hr, hv.ext hext, hH, hext, hB⟩
      have emptyrun : k = 0 → ∀ a' : Addr, ∃ w', (storeCells (a'.add (n * i.size)) L 0).run P w = .ok () w' ∧ HR P M1 m w' ∧ Below M.base.size w w' := by
        intro hk a'
        obtain ⟨h3, h4⟩ := empty hk
        rw [h3] at hput
        simp only [Mem.putN, Option.some.injEq] at hput
        subst hput
        exact ⟨w, by rw [h4]; rfl, h, Below.refl _ _⟩
      cases hs with
      | slNew j o _ _ hj hl => exact main _ rfl (h.putN ((AR.new j o hj).add _) hL 0 hput) (.slNew _ _ _ _ hj hle)
      | slOld b o _ _ hl => exact main _ rfl (h.putN ((AR.old b o).add _) hL 0 hput) (.slOld _ _ _ _ hle)
      | slLoose j o _ _ hj hl => exact main _ rfl (h.putN ((AR.new j o hj).add _) hL 0 hput) (.slLoose _ _ _ _ hj hle)
      | slOldE b o _ a' =>
        by_cases hk : k = 0
        · subst hk; exact main _ rfl (emptyrun rfl _) (.slOldE _ _ _ _)
        · exfalso
          have hlen : 0 < new.length := by rw [hLlen]; exact Nat.mul_pos (by omega) hsz0
          obtain ⟨y, ys, hy⟩ := List.exists_cons_of_length_pos hlen
          rw [hy] at hput
          simp [Mem.putN, Mem.put] at hput
      | slE j o sp a' hj =>
        have hk : k = 0 := by omega
        subst hk
        exact main _ rfl (emptyrun rfl _) (.slE _ _ _ _ hj)
  · rw [if_neg hle] at ha
    by_cases hroom : (n + k) * i.bytes ≤ 140737488355328
    case neg => rw [if_neg hroom] at ha; cases ha
    rw [if_pos hroom] at ha
    replace ha := Option.bind_eq_some_iff.1 ha; obtain ⟨old, hold, ha⟩ := ha
    replace ha := Option.bind_eq_some_iff.1 ha; obtain ⟨M1, hM1, ha⟩ := ha
    simp only [Option.some.injEq, Prod.mk.injEq] at ha
    obtain ⟨rfl, rfl⟩ := ha
    obtain ⟨O, hO, hOlen, hOd, hOr⟩ := firstCells_run h hs hold
    have hcells : VRl M.nb.size m (old ++ new) (O ++ L) := hO.append hL
    have hsum : (old ++ new).length = (n + k) * i.size := by rw [List.length_append, hOlen, hLlen, Nat.add_mul]
    have hcellsOf : P.cellsOf e = i.size := by simp [Program.cellsOf, hi]
    -- the row grows into a new block
    have grow : ∀ (hM : HR P M1 m w) (hE : Ext M M1 m m) (hsize1 : M1.nb.size = M.nb.size), ¬ n + k ≤ C →
        ∃ m' w' v, (Builtin.append_ argTypes ty args).run P w = .ok v w' ∧ VR (M1.new (.cells (old ++ new).toArray e)).nb.size m' (.slice (some ⟨2 * M.nb.size, 0, some 0⟩) (n + k) (n + k)) v ∧
          HR P (M1.new (.cells (old ++ new).toArray e)) m' w' ∧ Ext M (M1.new (.cells (old ++ new).toArray e)) m m' ∧ Below M.base.size w w' := by
      intro hM hE hsize1 hnC
      obtain ⟨cap, hcap, hrun⟩ := append_grow (ty := ty) h0 hu h1 hxu hi hz hb0 hb1 a0 a1 (by omega) hnC hroom hLd hOd
      have hM' := hM.drew (w.drawn + 1)
      have hc1 : (old ++ new).toArray.size = (n + k) * i.size := by simpa using hsum
      have hC1 : (O.toArray ++ L.toArray ++ Builtin.zeroCells z.cells (cap - (n + k))).size = (n + k) * i.size + (cap - (n + k)) * i.size := by
        have e1 : O.length = n * i.size := by rw [← hO.1, hOlen]
        have e2 : L.length = k * i.size := by rw [← hL.1, hLlen]
        simp [zeroCells_size, e1, e2, hzs, Nat.add_mul]
      obtain ⟨g1, g2, g3⟩ := hM'.new (c := (old ++ new).toArray) (C := O.toArray ++ L.toArray ++ Builtin.zeroCells z.cells (cap - (n + k))) (t := e) (e := cap - (n + k)) (by rw [hc1, hC1, hcellsOf]; exact Nat.le_refl _)
        (fun j h1 h2 => by
          have hOL : j < (O ++ L).length := by rw [← hcells.1]; simpa using h1
          have := hcells.2 j (by simpa using h1) hOL
          rw [hsize1]
          have e1 : (O.toArray ++ L.toArray ++ Builtin.zeroCells z.cells (cap - (n + k)))[j] = (O ++ L)[j] := by
            rw [Array.getElem_append_left (by simpa using hOL)]
            simp
          rw [e1]
          simpa using this)
      refine ⟨_, _, _, hrun, ?_, g1, hE.trans g2, ?_⟩
      · have := VR.slLoose (n := (M1.new (.cells (old ++ new).toArray e)).nb.size) (m := upd m M1.nb.size ⟨w.heap.size, 0, cap - (n + k)⟩) M1.nb.size 0 (n + k) (n + k) (by simp [Mem.new]) (Nat.le_refl _)
        simp only [upd, if_true, Nat.zero_add] at this
        rw [show n + k + (cap - (n + k)) = cap by omega] at this
        simp only [hsize1] at this ⊢
        exact this
      · have : Below M.base.size w { w with drawn := w.drawn + 1 } := ⟨rfl, rfl, rfl, Nat.le_refl _, fun _ _ => rfl⟩
        exact this.trans (by rw [← hE.base]; exact g3)
    rcases leave_cases hM1 with ⟨rfl, htight⟩ | ⟨a, cs, rfl, hloose, hblk, hcs, hone, hfl, hM1e⟩
    · refine grow h (Ext.refl _ _) rfl ?_
      cases hs with
      | slNil => omega
      | slNew => exact hle
      | slOld => exact hle
      | slOldE => exact hle
      | slLoose j o _ _ hj =>
        have := htight _ rfl
        simp at this
      | slE => exact hle
    · have hkill : M.kill (a.block / 2) = some M1 := by unfold Mem.kill; rw [if_neg hfl, hM1e]
      obtain ⟨hK, hKE⟩ := h.kill hkill
      have hKn : M1.nb.size = M.nb.size := by rw [hM1e]; simp
      by_cases hnC : n + k ≤ C
      case neg => exact grow hK hKE hKn hnC
      -- there is room behind: the same block of the model
      cases hs with
      | slNew j o _ _ hj => simp at hloose
      | slOld b o => simp at hloose
      | slOldE b o => simp at hloose
      | slE j o sp a' hj => omega
      | slLoose j o _ _ hj hl =>
        simp only [show 2 * j / 2 = j by omega] at hblk hM1e
        obtain ⟨hN, CC, hCC, hCs, hCV⟩ := h.blk j _ hblk
        have hfree : ∀ q b, M1.nb[q]? = some b → b.live = true → (m q).B ≠ (m j).B := by
          intro q b hq hb
          rw [hM1e] at hq
          obtain ⟨hjq, hq⟩ := set_dead hq hb
          exact h.inj q j b _ hq hblk hb rfl (fun e => hjq e.symm)
        have hLone : ∀ v ∈ L, v.oneCell' = true := by
          intro v hv
          obtain ⟨q, hq, rfl⟩ := List.getElem_of_mem hv
          have hq' : q < new.length := by rw [hL.1]; exact hq
          exact (hL.2 q hq' hq).oneCell (List.all_eq_true.1 hone _ (List.getElem_mem hq'))
        have eO : O.length = n * i.size := by rw [← hO.1, hOlen]
        have eL : L.length = k * i.size := by rw [← hL.1, hLlen]
        have hmul : (n + k) * i.size ≤ (c + (m j).e) * i.size := Nat.mul_le_mul_right _ hnC
        rw [Nat.add_mul, Nat.add_mul] at hmul
        rw [hcellsOf] at hCs
        simp only at hcs
        have hfit : o + (m j).s + n * i.size + L.length ≤ CC.size := by rw [eL]; omega
        have hst := run_storeCells_at P (m j).B (o + (m j).s + n * i.size) e L 0 CC w hCC (by simpa using hfit) hLone
        have hadd : (⟨(m j).B, o + (m j).s, none⟩ : Addr).add (n * i.size) = ⟨(m j).B, o + (m j).s + n * i.size, none⟩ := by unfold Addr.add; split <;> simp_all
        obtain ⟨C', hC'⟩ : ∃ C', C' = (CC.toList.take (o + (m j).s + n * i.size + 0) ++ L ++ CC.toList.drop (o + (m j).s + n * i.size + 0 + L.length)).toArray := ⟨_, rfl⟩
        rw [← hC'] at hst
        have hsz : C'.size = CC.size := by
          rw [hC']
          simp only [List.size_toArray, List.length_append, List.length_take, List.length_drop, Array.length_toList]
          omega
        obtain ⟨hR, hRB⟩ := hK.row (B := (m j).B) (by rw [hKE.base]; exact hN) C' hfree
        have hcell' : (w.setRow (m j).B C').heap[(m j).B]? = some (.cells C' e (0, 0)) := setRow_heap w _ CC C' e (0, 0) hCC
        have hc1 : (old ++ new).toArray.size = n * i.size + k * i.size := by rw [List.size_toArray, hsum, Nat.add_mul]
        have hOc := (h.cellsN (n * i.size) (AR.new j o hj) hold).2
        have hOcell : ∀ q (hq : q < O.length), CC[o + (m j).s + q]? = some O[q] := by
          intro q hq
          obtain ⟨L2, hL2, hcs2⟩ := hOc
          have : O = L2 := by
            have r1 := hOr
            have r2 := run_loadCells_list (P := P) w ⟨(m j).B, o + (m j).s, none⟩ L2 hcs2
            have e3 : L2.length = n * i.size := by rw [← hL2.1, hOlen]
            rw [e3] at r2
            simp only [Builtin.firstCells] at r1
            rw [r1] at r2
            injection r2 with r2
            simpa using r2
          subst this
          have hx := hcs2 q O[q] (List.getElem?_eq_getElem hq)
          rw [show (⟨(m j).B, o + (m j).s, none⟩ : Addr).add q = ⟨(m j).B, o + (m j).s + q, none⟩ by unfold Addr.add; split <;> simp_all] at hx
          simp only [World.cell?, hCC] at hx
          simpa using hx
        have hCell : ∀ q (hq : q < (O ++ L).length), C'[o + (m j).s + q]? = some (O ++ L)[q] := by
          intro q hq
          rw [hC']
          simp only [List.getElem?_toArray, Nat.add_zero]
          have hq2 : q < n * i.size + k * i.size := by rw [List.length_append, eO, eL] at hq; exact hq
          have hlen : (CC.toList.take (o + (m j).s + n * i.size)).length = o + (m j).s + n * i.size := by simp; omega
          by_cases hqn : q < n * i.size
          · rw [List.getElem_append_left (by rw [eO]; exact hqn), List.append_assoc, List.getElem?_append_left (by omega), List.getElem?_take_of_lt (by omega)]
            simpa using hOcell q (by omega)
          · rw [List.getElem_append_right (by rw [eO]; omega), List.append_assoc, List.getElem?_append_right (by omega), hlen, List.getElem?_append_left (by rw [eL]; omega)]
            have e4 : o + (m j).s + q - (o + (m j).s + n * i.size) = q - O.length := by rw [eO]; omega
            rw [e4]
            exact List.getElem?_eq_getElem _
        obtain ⟨g1, g2⟩ := hR.adopt (B := (m j).B) (s := o + (m j).s) (e := c + (m j).e - (n + k)) (c := (old ++ new).toArray) (C := C') (t := e) (by rw [hKE.base]; exact hN) hcell'
          (by
            rw [hc1, hsz, hcellsOf, Nat.sub_mul, Nat.add_mul, Nat.add_mul]
            omega)
          (fun q h1 h2 => by
            have hOL : q < (O ++ L).length := by rw [← hcells.1]; simpa using h1
            have hv := hcells.2 q (by simpa using h1) hOL
            have e1 : C'[o + (m j).s + q] = (O ++ L)[q] := by
              have := Array.getElem?_eq_getElem h2
              rw [hCell q hOL] at this
              exact (Option.some.inj this).symm
            rw [e1, hKn]
            simpa using hv) hfree
        refine ⟨_, _, _, append_in (ty := ty) h0 hu h1 hxu hi a0 a1 hLr hnC (by rw [hadd]; exact hst), ?_, g1, hKE.trans g2, by rw [← hKE.base]; exact hRB⟩
        have := VR.slLoose (n := (M1.new (.cells (old ++ new).toArray e)).nb.size) (m := upd m M1.nb.size ⟨(m j).B, o + (m j).s, c + (m j).e - (n + k)⟩) M1.nb.size 0 (n + k) (n + k) (by simp [Mem.new]) (Nat.le_refl _)
        simp only [upd, if_true, Nat.zero_add] at this
        rw [show n + k + (c + (m j).e - (n + k)) = c + (m j).e by omega] at this
        simp only [hKn] at this ⊢
        exact this

theorem copyP_sim {M M' : Mem} {w : World} (h : HR P M m w) {argTypes : Array TypeId} {ty : TypeId} {args : Array Value} {s x s' x' u : Value}
    (hs : VR M.nb.size m s s') (hx : VR M.nb.size m x x') (a0 : args[0]? = some s') (a1 : args[1]? = some x') (ha : copyP P argTypes s x M = some (u, M')) :
    ∃ m' w' v, (Builtin.copy_ argTypes ty args).run P w = .ok v w' ∧ VR M'.nb.size m' u v ∧ HR P M' m' w' ∧ Ext M M' m m' ∧ Below M.base.size w w' := by
  unfold copyP at ha
  split at ha
  case h_2 => cases ha
  rename_i e a n c b k xc hst
  obtain ⟨st, h0, hu⟩ := Option.bind_eq_some_iff.1 hst
  replace ha := Option.bind_eq_some_iff.1 ha; obtain ⟨size, hsize, ha⟩ := ha
  replace ha := Option.bind_eq_some_iff.1 ha; obtain ⟨l, hl, ha⟩ := ha
  obtain ⟨M1, hput, ha⟩ := Option.map_eq_some_iff.1 ha
  simp only [Prod.mk.injEq] at ha
  obtain ⟨rfl, rfl⟩ := ha
  obtain ⟨e1', e2', e3'⟩ := Mem.putN_same hput
  have hext : Ext M M1 m m := ⟨e1', e2', by omega, fun _ _ => rfl⟩
  obtain ⟨A, C, rfl, _, _, _, hAs⟩ := slice_inv hs
  obtain ⟨X, XC, rfl, _, _, _, hXs⟩ := slice_inv hx
  obtain ⟨A, rfl⟩ := Option.isSome_iff_exists.1 (hAs _ rfl)
  obtain ⟨X, rfl⟩ := Option.isSome_iff_exists.1 (hXs _ rfl)
  have hsrc : ∃ L, VRl M.nb.size m l L ∧ (loadCells X (Nat.min k n * size)).run P w = .ok L.toArray w := by
    have go : AR M.nb.size m b.block b.off X → ∃ L, VRl M.nb.size m l L ∧ (loadCells X (Nat.min k n * size)).run P w = .ok L.toArray w := fun hA => by
      obtain ⟨L, h1, h2, _⟩ := run_cellsN h hA hl
      exact ⟨L, h1, h2⟩
    have zero : Nat.min k n = 0 → ∃ L, VRl M.nb.size m l L ∧ (loadCells X (Nat.min k n * size)).run P w = .ok L.toArray w := fun h0 => by
      rw [h0, Nat.zero_mul] at hl ⊢
      simp only [Mem.cellsN, Option.some.injEq] at hl
      subst hl
      exact ⟨[], VRl.nil, rfl⟩
    cases hx with
    | slNew j o _ _ hj _ => exact go (.new _ _ hj)
    | slOld b o _ _ _ => exact go (.old _ _)
    | slLoose j o _ _ hj _ => exact go (.new _ _ hj)
    | slOldE => exact zero (Nat.zero_min _)
    | slE => exact zero (Nat.zero_min _)
  obtain ⟨L, hL, hLr⟩ := hsrc
  have hdst : ∃ w', (storeCells A L 0).run P w = .ok () w' ∧ HR P M1 m w' ∧ Below M.base.size w w' := by
    have zero : n = 0 → ∃ w', (storeCells A L 0).run P w = .ok () w' ∧ HR P M1 m w' ∧ Below M.base.size w w' := fun h0 => by
      have : Nat.min k n = 0 := by rw [h0]; exact Nat.min_zero _
      rw [this, Nat.zero_mul] at hl
      simp only [Mem.cellsN, Option.some.injEq] at hl
      subst hl
      have hL0 : L = [] := List.length_eq_zero_iff.1 (by rw [← hL.1]; rfl)
      simp only [Mem.putN, Option.some.injEq] at hput
      subst hput
      exact ⟨w, by rw [hL0]; rfl, h, Below.refl _ _⟩
    cases hs with
    | slNew j o _ _ hj _ => exact h.putN (AR.new j o hj) hL 0 hput
    | slOld b o _ _ _ => exact h.putN (AR.old b o) hL 0 hput
    | slLoose j o _ _ hj _ => exact h.putN (AR.new j o hj) hL 0 hput
    | slOldE => exact zero rfl
    | slE => exact zero rfl
  obtain ⟨w', hr, hH, hB⟩ := hdst
  refine ⟨m, w', _, ?_, .int _ _, hH, hext, hB⟩
  simp only [Builtin.copy_, h0, a0, a1, Sem.run_bind, run_underlying hu, Result.andThen, Builtin.lenOf, Sem.run_pure, sizeP_run hsize, Builtin.firstCells, hLr, hr]
  simp [hr, goInt, Result.andThen]

theorem madeSize (z : Array Value) (k : Nat) : ((Array.range k).map (z[· % z.size]!)).size = k := by simp

theorem VRs.made {n : Nat} {z : Array Value} (hz : VRs n m z z) (h0 : 0 < z.size) (k : Nat) : VRs n m ((Array.range k).map (z[· % z.size]!)) ((Array.range k).map (z[· % z.size]!)) := by
  refine VRs.map fun i _ => ?_
  have hi : i % z.size < z.size := Nat.mod_lt _ h0
  rw [getElem!_pos z _ hi]
  exact hz.2 _ hi hi

theorem makeP_sim {M M' : Mem} {w : World} (h : HR P M m w) {t : TypeId} {l c l' c' u : Value} (hl : VR M.nb.size m l l') (hc : VR M.nb.size m c c') (ha : makeP P t l c M = some (u, M')) :
    ∃ m' w' v, (Instr.makeSlice t l' c').run P w = .ok v w' ∧ VR M'.nb.size m' u v ∧ HR P M' m' w' ∧ Ext M M' m m' ∧ Below M.base.size w w' := by
  unfold makeP at ha
  split at ha
  case h_2 => cases ha
  rename_i e kl l kc c hu
  obtain rfl := int_inv hl
  obtain rfl := int_inv hc
  replace ha := Option.bind_eq_some_iff.1 ha; obtain ⟨i, hi, ha⟩ := ha
  replace ha := Option.bind_eq_some_iff.1 ha; obtain ⟨z, hz, ha⟩ := ha
  split at ha
  case isFalse => cases ha
  rename_i hcond
  obtain ⟨hzc, hzs, hs0, hb0, hl0, hlc, hroom⟩ := hcond
  simp only [Option.some.injEq, Prod.mk.injEq, zeroRow_eq] at ha
  obtain ⟨rfl, rfl⟩ := ha
  have hc48 : c ≤ 281474976710656 := by
    have h1 : (1 : Int) ≤ i.bytes := by omega
    have := Int.mul_le_mul_of_nonneg_left h1 (show 0 ≤ c by omega)
    omega
  have hw1 : IntKind.i64.wrap l = l := by
    have e1 : (2 : Int) ^ IntKind.i64.bits = 18446744073709551616 := by decide
    have e2 : (2 : Int) ^ (IntKind.i64.bits - 1) = 9223372036854775808 := by decide
    unfold IntKind.wrap
    simp only [e1, e2, IntKind.signed]
    split <;> rename_i hh <;> simp at hh <;> omega
  have hw2 : IntKind.i64.wrap c = c := by
    have e1 : (2 : Int) ^ IntKind.i64.bits = 18446744073709551616 := by decide
    have e2 : (2 : Int) ^ (IntKind.i64.bits - 1) = 9223372036854775808 := by decide
    unfold IntKind.wrap
    simp only [e1, e2, IntKind.signed]
    split <;> rename_i hh <;> simp at hh <;> omega
  have hcomm : (i.bytes : Int) * c ≤ 281474976710656 := by rw [Int.mul_comm]; exact hroom
  have hcells : VRs M.nb.size m z.cells z.cells := (VR.refl_of_closed hzc).cells
  have hmade := hcells.made (by omega) (c.toNat * i.size)
  obtain ⟨g1, g2, g3⟩ := h.new (c := (Array.range (c.toNat * i.size)).map (z.cells[· % z.cells.size]!)) (C := (Array.range (c.toNat * i.size)).map (z.cells[· % z.cells.size]!)) (t := e) (e := 0)
    (by simp) (fun j h1 h2 => hmade.2 j h1 h2)
  refine ⟨_, _, _, ?_, VR.newSl (M := M) (w := w) (b := .cells ((Array.range (c.toNat * i.size)).map (z.cells[· % z.cells.size]!)) e) (e := 0) (show l.toNat ≤ c.toNat by omega), g1, g2, g3⟩
  have hbig : ¬ ((decide (c < 0) || decide ((i.bytes : Int) * c > 2 ^ 48)) = true ∨ l < 0 ∨ l > c) := by
    have : (2 : Int) ^ 48 = 281474976710656 := by decide
    simp only [Bool.or_eq_true, decide_eq_true_eq, this]
    omega
  have hbig' : ((decide (c < 0) || decide ((i.bytes : Int) * c > 2 ^ 48)) || decide (l < 0) || decide (l > c)) = false := by
    have : (2 : Int) ^ 48 = 281474976710656 := by decide
    simp only [Bool.or_eq_false_iff, decide_eq_false_iff_not, this]
    omega
  simp only [Instr.makeSlice, Sem.run_bind, run_underlying hu, Result.andThen, asInt, asIntOf, Sem.run_pure, info_run hi, hw1, hw2, hbig', Bool.false_eq_true, if_false, run_askRoom, infoSize_run hi]
  by_cases hk : c.toNat * i.size = 0
  · have r0 : ∀ f : Nat → Value, (Array.range 0).map f = #[] := fun f => by simp
    simp only [hk, if_true, Sem.run_pure, Result.andThen, newRow, Sem.run_bind, run_newObj, r0]
    rfl
  · simp only [hk, if_false, infoZero_run hi hz, Sem.run_pure, Result.andThen, newRow, Sem.run_bind, run_newObj]
    rfl
end
end Go.Sim
