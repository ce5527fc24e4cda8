/- The abstract machine 'Sim': what arguments of numbers, structs, arrays and slices of such are to it; and that they read so behind the call. -/
import Derived.Test.YtbbdggpfhcgbpaaZsR
import Derived.ReadAgain
import Derived.ChangeBears
set_option linter.unusedSimpArgs false
set_option linter.unusedVariables false
namespace Go.Sim
open Go Go.RowKit Go.WideShapes Go.ChangeShapes

/-- The old memory as the machine sees it, a value. -/
def embD (v : Value) : Value := (embV v).getD undef
def Sees (P : Program) (M : Mem) (B : Nat) : Nat → TypeId → List Value → Prop
  | 0, _, _ => False
  | k + 1, t, cs => match P.underlying t with
    | some .bool => ∃ b, cs = [.bool b]
    | some (.int q) => ∃ x, cs = [.int q x] ∧ (Lit.int q x).wf = true
    | some (.slice e) => ∃ A n c, cs = [.slice A n c] ∧ n ≤ c ∧ n ≤ B ∧ (A = none → c = 0) ∧ Old A ∧ ∃ L : List (List Value), L.length = n ∧ Row M A L.flatten ∧ ∀ r ∈ L, Sees P M B k e r
    | some (.struct fs) => cs.length = P.cellsOf t ∧ ∀ f ∈ fs.toList, Sees P M B k f.type ((cs.drop f.offset).take (P.cellsOf f.type))
    | some (.array m e) => cs.length = P.cellsOf t ∧ ∀ i, i < m → Sees P M B k e ((cs.drop (i * P.cellsOf e)).take (P.cellsOf e))
    | _ => False
def seeable (P : Program) : Nat → TypeId → Bool
  | 0, _ => false
  | k + 1, t => match P.underlying t with
    | some .bool | some (.int _) => true
    | some (.slice e) => decide (0 < P.cellsOf e) && seeable P k e
    | some (.struct fs) => fs.toList.all fun f => seeable P k f.type
    | some (.array _ e) => seeable P k e
    | _ => false

theorem mapM_some {α β : Type} {f : α → Option β} : ∀ {l : List α} {r : List β}, l.mapM f = some r → r.length = l.length ∧ ∀ i (h : i < l.length), ∃ y, r[i]? = some y ∧ f l[i] = some y
  | [], r, h => by simp at h; subst h; exact ⟨rfl, fun i hi => by simp at hi⟩
  | x :: l, r, h => by
    rw [List.mapM_cons] at h
    obtain ⟨y, hy, h⟩ := Option.bind_eq_some_iff.1 h
    obtain ⟨ys, hys, h⟩ := Option.bind_eq_some_iff.1 h
    obtain rfl := Option.some.inj h
    obtain ⟨h1, h2⟩ := mapM_some hys
    refine ⟨by simp [h1], fun i hi => ?_⟩
    cases i with
    | zero => exact ⟨y, rfl, hy⟩
    | succ i => exact h2 i (by simpa using hi)
theorem cell_mem0 (w : World) (b o : Nat) : (mem0 w).cell (2 * b + 1) o = (w.cell? ⟨b, o, none⟩).bind embV := by
  unfold Mem.cell World.cell? mem0
  rw [if_pos (by omega), show (2 * b + 1) / 2 = b by omega]
  cases w.heap[b]? with
  | none => rfl
  | some o' => cases o' <;> rfl
theorem sum_cover : ∀ {l : List Nat} {q : Nat}, q < l.sum → ∃ j, j < l.length ∧ (l.take j).sum ≤ q ∧ q < (l.take j).sum + l.getD j 0
  | [], q, h => by simp at h
  | x :: l, q, h => by
    by_cases hq : q < x
    · exact ⟨0, by simp, by simp, by simpa using hq⟩
    · rw [List.sum_cons] at h
      obtain ⟨j, h1, h2, h3⟩ := sum_cover (l := l) (q := q - x) (by omega)
      refine ⟨j + 1, by simpa using h1, ?_, ?_⟩
      · simp only [List.take_succ_cons, List.sum_cons]; omega
      · simp only [List.take_succ_cons, List.sum_cons, List.getD_cons_succ]; omega
/-- What counts the values of a reading. -/
structure Bulk {H : Type} (bulk : DataW H → Nat) : Prop where
  slice : ∀ l r, l.length ≤ bulk (.slice l r) ∧ ∀ x ∈ l, bulk x ≤ bulk (.slice l r)
  agg : ∀ l, ∀ x ∈ l, bulk x ≤ bulk (.agg l)

section
variable {H : Type} {enc : TypeId × Value → H} {P : Program} {w : World}
theorem see {bulk : DataW H → Nat} (hb : Bulk bulk) (K : Kids P (· < P.types.size)) {B : Nat} : ∀ (fuel k : Nat) (t : TypeId) (cs : List Value) (x : DataW H × List MemPlace), t < P.types.size →
    DataW.trod enc P w 0 (fun _ => true) true fuel t cs = some x → seeable P k t = true → bulk x.1 ≤ B →
    (∀ v ∈ cs, (embV v).isSome = true) ∧ Sees P (mem0 w) B k t (cs.map embD)
  | 0, _, _, _, _, _, h, _, _ => by simp [DataW.trod] at h
  | fuel + 1, 0, _, _, _, _, _, h, _ => by simp [seeable] at h
  | fuel + 1, k + 1, t, cs, x, ht, h, hs, hB => by
    have ih := see hb K (B := B) fuel k
    rw [DataW.trod_step] at h
    unfold DataW.trodStep at h
    unfold seeable at hs
    unfold Sees
    cases hu : P.underlying t with
    | none => rw [hu] at hs; cases hs
    | some ut =>
      rw [hu] at hs h
      cases ut with
      | bool =>
        match cs, h with
        | [.bool b], h => exact ⟨fun v hv => by simp at hv; subst hv; rfl, b, rfl⟩
        | [], h => simp at h
        | v :: u :: l, h => simp at h
      | int q =>
        match cs, h with
        | [.int q' y], h =>
          simp only at h
          split at h
          · rename_i hc
            obtain ⟨rfl, hw⟩ := hc
            exact ⟨fun v hv => by simp at hv; subst hv; rfl, y, rfl, hw⟩
          · cases h
        | [], h => simp at h
        | v :: u :: l, h => simp at h
      | slice e =>
        simp only [Bool.and_eq_true, decide_eq_true_eq] at hs
        have he := K.slice ht hu
        match cs, h with
        | [], h => simp at h
        | v :: u :: l, h => simp at h
        | [.slice none 0 0], h => exact ⟨fun v hv => by simp at hv; subst hv; rfl, none, 0, 0, rfl, Nat.le_refl _, Nat.zero_le _, fun _ => rfl, fun a h => (by cases h), [], rfl, fun i h => by simp at h, fun r h => by cases h⟩
        | [.slice none (n + 1) c], h => simp at h
        | [.slice none 0 (c + 1)], h => simp at h
        | [.slice (some a) len cap], h =>
          simp only at h
          split at h
          case isFalse => cases h
          rename_i hc
          obtain ⟨elems, hel, h⟩ := Option.bind_eq_some_iff.1 h
          obtain ⟨rest, hrest, rfl⟩ := Option.map_eq_some_iff.1 h
          obtain ⟨hlen, hat⟩ := mapM_some hel
          simp only [List.length_range] at hlen hat
          have hat' : ∀ i, i < len → ∃ cl y, w.cells? 0 (a.add (i * P.cellsOf e)) (P.cellsOf e) = some cl ∧ elems[i]? = some y ∧ DataW.trod enc P w 0 (fun _ => true) true fuel e cl = some y := by
            intro i hi
            obtain ⟨y, h1, h2⟩ := hat i hi
            rw [List.getElem_range] at h2
            obtain ⟨cl, h3, h4⟩ := Option.bind_eq_some_iff.1 h2
            exact ⟨cl, y, h3, h1, h4⟩
          have hB' := (hb.slice (elems.map (·.1)) (rest.map (·.1)))
          have hlB : len ≤ B := by
            have := hB'.1
            rw [List.length_map, hlen] at this
            exact Nat.le_trans this hB
          -- the elements' cells
          let cl : Nat → List Value := fun i => ((w.cells? 0 (a.add (i * P.cellsOf e)) (P.cellsOf e)).getD [])
          have hcl : ∀ i, i < len → w.cells? 0 (a.add (i * P.cellsOf e)) (P.cellsOf e) = some (cl i) ∧ (cl i).length = P.cellsOf e ∧ (∀ v ∈ cl i, (embV v).isSome = true) ∧ Sees P (mem0 w) B k e ((cl i).map embD) := by
            intro i hi
            obtain ⟨c, y, h1, h2, h3⟩ := hat' i hi
            have ec : cl i = c := by show (w.cells? 0 _ _).getD [] = c; rw [h1]; rfl
            have hy : bulk y.1 ≤ B := Nat.le_trans (hB'.2 _ (List.mem_map.2 ⟨y, List.mem_of_getElem? h2, rfl⟩)) hB
            obtain ⟨g1, g2⟩ := ih e c y he h3 hs.2 hy
            have hl : c.length = P.cellsOf e := by
              unfold World.cells? at h1
              rw [if_pos (Nat.zero_le _)] at h1
              have := (mapM_some h1).1
              simpa using this
            rw [ec]; exact ⟨h1, hl, g1, g2⟩
          have hcell : ∀ i o, i < len → o < P.cellsOf e → w.cell? ((a.add (i * P.cellsOf e)).add o) = (cl i)[o]? := by
            intro i o hi ho
            obtain ⟨h1, h2, _⟩ := hcl i hi
            unfold World.cells? at h1
            rw [if_pos (Nat.zero_le _)] at h1
            obtain ⟨y, h3, h4⟩ := (mapM_some h1).2 o (by simpa using ho)
            rw [List.getElem_range] at h4
            rw [h4, h3]
          by_cases h0 : len = 0
          · subst h0
            refine ⟨fun v hv => by simp at hv; subst hv; simp [embV], some ⟨1, 0, none⟩, 0, cap, by simp [embD, embV], Nat.zero_le _, hlB, fun h => (by cases h), fun b hb => (by obtain rfl := Option.some.inj hb; rfl), [], rfl, fun i h => by simp at h, fun r h => by cases h⟩
          · have hc0 := hcell 0 0 (by omega) hs.1
            have hl0 := (hcl 0 (by omega)).2.1
            have hspot : a.spot = none := by
              have h3 : w.cell? ((a.add (0 * P.cellsOf e)).add 0) = some ((cl 0)[0]'(by omega)) := by rw [hc0, List.getElem?_eq_getElem]
              have := World.cell?_spot h3
              simpa [Addr.add] using this
            obtain ⟨bk, off, spot⟩ := a
            simp only at hspot
            subst hspot
            have emb : embV (.slice (some ⟨bk, off, none⟩) len cap) = some (.slice (some ⟨2 * bk + 1, off, none⟩) len cap) := by
              unfold embV; simp [h0, hc.2.1]
            refine ⟨fun v hv => by simp at hv; subst hv; rw [emb]; rfl, some ⟨2 * bk + 1, off, none⟩, len, cap, by simp [embD, emb], hc.2.1, hlB, fun h => (by cases h), fun b hb => (by obtain rfl := Option.some.inj hb; show (2 * bk + 1) % 2 = 1; omega), (List.range len).map fun i => (cl i).map embD, by simp, ?_, ?_⟩
            · have hflat : ((List.range len).map fun i => (cl i).map embD).flatten = (List.range len).flatMap fun i => (cl i).map embD := by rw [List.flatMap_def]
              rw [hflat]
              intro q hq
              refine ⟨_, rfl, ?_⟩
              -- which element, which cell
              have hgen : ∀ (l : List Nat) (q : Nat), (∀ i ∈ l, i < len) → (l.flatMap fun i => (cl i).map embD)[q]? = (l[q / P.cellsOf e]?).bind fun i => ((cl i).map embD)[q % P.cellsOf e]? := by
                intro l
                induction l with
                | nil => intro q _; simp
                | cons i l ihl =>
                  intro q hl
                  have hli : ((cl i).map embD).length = P.cellsOf e := by rw [List.length_map]; exact (hcl i (hl i (List.mem_cons_self ..))).2.1
                  rw [List.flatMap_cons]
                  by_cases hq : q < P.cellsOf e
                  · rw [List.getElem?_append_left (by omega), Nat.div_eq_of_lt hq, Nat.mod_eq_of_lt hq]; rfl
                  · have e1 : q = (q - P.cellsOf e) + P.cellsOf e := by omega
                    rw [List.getElem?_append_right (by omega), hli, ihl _ fun i hi => hl i (List.mem_cons_of_mem _ hi)]
                    conv => rhs; rw [e1, Nat.add_div_right _ hs.1, Nat.add_mod_right]
                    rfl
              have hq' := hgen (List.range len) q fun i hi => List.mem_range.1 hi
              rw [List.getElem?_eq_getElem hq] at hq'
              have hi : q / P.cellsOf e < len := by
                rcases Nat.lt_or_ge (q / P.cellsOf e) len with h | h
                · exact h
                · rw [List.getElem?_eq_none (l := List.range len) (by simpa using h)] at hq'; cases hq'
              have ho : q % P.cellsOf e < P.cellsOf e := Nat.mod_lt _ hs.1
              rw [List.getElem?_range hi, Option.bind_some, List.getElem?_map] at hq'
              obtain ⟨h1, h2, h3, _⟩ := hcl (q / P.cellsOf e) hi
              rw [List.getElem?_eq_getElem (show q % P.cellsOf e < (cl (q / P.cellsOf e)).length by omega), Option.map_some] at hq'
              have hq2 := Option.some.inj hq'
              rw [hq2]
              have h4 := hcell (q / P.cellsOf e) (q % P.cellsOf e) hi ho
              rw [add_plain, add_plain, List.getElem?_eq_getElem (show q % P.cellsOf e < (cl (q / P.cellsOf e)).length by omega)] at h4
              have e2 : off + q / P.cellsOf e * P.cellsOf e + q % P.cellsOf e = off + q := by
                rw [Nat.add_assoc, Nat.mul_comm, Nat.div_add_mod]
              rw [e2] at h4
              show (mem0 w).cell (2 * bk + 1) (off + q) = _
              rw [cell_mem0, h4, Option.bind_some]
              obtain ⟨u, hu'⟩ := Option.isSome_iff_exists.1 (h3 _ (List.getElem_mem (show q % P.cellsOf e < (cl (q / P.cellsOf e)).length by omega)))
              unfold embD; rw [hu']; rfl
            · intro r hr
              obtain ⟨i, hi, rfl⟩ := List.mem_map.1 hr
              exact (hcl i (List.mem_range.1 hi)).2.2.2
      | struct fs =>
        simp only at h hs ⊢
        have key : ∃ xs, cs.length = P.cellsOf t ∧ (fs.toList.mapM fun f => DataW.trod enc P w 0 (fun _ => true) true fuel f.type ((cs.drop f.offset).take (P.cellsOf f.type))) = some xs ∧ x.1 = .agg (xs.map (·.1)) := by
          split at h
          · rename_i hl
            obtain ⟨xs, hxs, rfl⟩ := Option.map_eq_some_iff.1 h
            exact ⟨xs, hl, hxs, rfl⟩
          · cases h
        obtain ⟨xs, hl, hxs, hx1⟩ := key
        obtain ⟨hf1, hf2, hf3⟩ := K.struct ht hu
        obtain ⟨hlen, hat⟩ := mapM_some hxs
        have each : ∀ j (hj : j < fs.toList.length), (∀ v ∈ (cs.drop fs.toList[j].offset).take (P.cellsOf fs.toList[j].type), (embV v).isSome = true) ∧ Sees P (mem0 w) B k fs.toList[j].type (((cs.drop fs.toList[j].offset).take (P.cellsOf fs.toList[j].type)).map embD) := by
          intro j hj
          obtain ⟨y, h1, h2⟩ := hat j hj
          refine ih _ _ y (hf1 _ (List.getElem_mem hj)) h2 (List.all_eq_true.1 hs _ (List.getElem_mem hj)) (Nat.le_trans ?_ hB)
          rw [hx1]
          exact hb.agg _ _ (List.mem_map.2 ⟨y, List.mem_of_getElem? h1, rfl⟩)
        refine ⟨fun v hv => ?_, by rw [List.length_map, hl], fun f hf => ?_⟩
        · obtain ⟨q, hq, rfl⟩ := List.getElem_of_mem hv
          rw [hl, hf2] at hq
          obtain ⟨j, h1, h2, h3⟩ := sum_cover hq
          rw [List.length_map] at h1
          have ho := hf3 j fs.toList[j] (List.getElem?_eq_getElem h1)
          rw [← List.map_take] at h2 h3
          have ed : (fs.toList.map fun f => P.cellsOf f.type).getD j 0 = P.cellsOf fs.toList[j].type := by rw [List.getD_eq_getElem?_getD, List.getElem?_map, List.getElem?_eq_getElem h1]; rfl
          rw [← ho] at h2 h3
          rw [ed] at h3
          refine (each j h1).1 _ ?_
          rw [List.mem_iff_getElem?]
          refine ⟨q - fs.toList[j].offset, ?_⟩
          rw [List.getElem?_take, if_pos (by omega), List.getElem?_drop, show fs.toList[j].offset + (q - fs.toList[j].offset) = q by omega, List.getElem?_eq_getElem]
        · obtain ⟨j, hj, rfl⟩ := List.getElem_of_mem hf
          have := (each j hj).2
          rw [List.map_take, List.map_drop] at this
          exact this
      | array m e =>
        simp only at h hs ⊢
        obtain ⟨he, hsz⟩ := K.array ht hu
        have key : ∃ xs, cs.length = P.cellsOf t ∧ ((List.range m).mapM fun i => DataW.trod enc P w 0 (fun _ => true) true fuel e ((cs.drop (i * P.cellsOf e)).take (P.cellsOf e))) = some xs ∧ x.1 = .agg (xs.map (·.1)) := by
          split at h
          · rename_i hl
            obtain ⟨xs, hxs, rfl⟩ := Option.map_eq_some_iff.1 h
            exact ⟨xs, hl, hxs, rfl⟩
          · cases h
        obtain ⟨xs, hl, hxs, hx1⟩ := key
        obtain ⟨hlen, hat⟩ := mapM_some hxs
        have each : ∀ i, i < m → (∀ v ∈ (cs.drop (i * P.cellsOf e)).take (P.cellsOf e), (embV v).isSome = true) ∧ Sees P (mem0 w) B k e (((cs.drop (i * P.cellsOf e)).take (P.cellsOf e)).map embD) := by
          intro i hi
          obtain ⟨y, h1, h2⟩ := hat i (by simpa using hi)
          rw [List.getElem_range] at h2
          refine ih _ _ y he h2 hs (Nat.le_trans ?_ hB)
          rw [hx1]
          exact hb.agg _ _ (List.mem_map.2 ⟨y, List.mem_of_getElem? h1, rfl⟩)
        refine ⟨fun v hv => ?_, by rw [List.length_map, hl], fun i hi => ?_⟩
        · obtain ⟨q, hq, rfl⟩ := List.getElem_of_mem hv
          rw [hl, hsz] at hq
          have hs0 : 0 < P.cellsOf e := by
            rcases Nat.eq_zero_or_pos (P.cellsOf e) with h0 | h0
            · rw [h0] at hq; simp at hq
            · exact h0
          have hi : q / P.cellsOf e < m := (Nat.div_lt_iff_lt_mul hs0).2 hq
          refine (each _ hi).1 _ ?_
          rw [List.mem_iff_getElem?]
          have hm := Nat.mod_lt q hs0
          have hd := Nat.div_add_mod q (P.cellsOf e)
          rw [Nat.mul_comm] at hd
          refine ⟨q % P.cellsOf e, ?_⟩
          rw [List.getElem?_take, if_pos hm, List.getElem?_drop, hd, List.getElem?_eq_getElem]
        · have := (each i hi).2
          rw [List.map_take, List.map_drop] at this
          exact this
      | _ => simp at hs

theorem embD_VR {n : Nat} {m : Nat → Loc} {v : Value} (h : (embV v).isSome = true) : VR n m (embD v) v := by
  obtain ⟨u, hu⟩ := Option.isSome_iff_exists.1 h
  unfold embD; rw [hu]; exact embV_VR hu
/-- An argument of one cell. -/
theorem see1 {bulk : DataW H → Nat} (hb : Bulk bulk) (K : Kids P (· < P.types.size)) {B k : Nat} {t : TypeId} {v : Value} {d : DataW H} {ps : List MemPlace} (ht : t < P.types.size) (h : DataW.Trod enc P w 0 (fun _ => true) true t v d ps)
    (hs : seeable P k t = true) (hB : bulk d ≤ B) (h1 : oneCell v = true) : VR 0 (fun _ => ⟨0, 0, 0⟩) (embD v) v ∧ Sees P (mem0 w) B k t [embD v] := by
  obtain ⟨fuel, hf⟩ := h
  have e : v.cells.toList = [v] := by
    cases v <;> first | rfl | (simp [oneCell] at h1)
  rw [e] at hf
  obtain ⟨g1, g2⟩ := see hb K fuel k t [v] _ ht hf hs hB
  exact ⟨embD_VR (g1 v (by simp)), g2⟩
/-- An argument of several cells. -/
theorem seeA {bulk : DataW H → Nat} (hb : Bulk bulk) (K : Kids P (· < P.types.size)) {B k : Nat} {t : TypeId} {cs : Array Value} {d : DataW H} {ps : List MemPlace} (ht : t < P.types.size) (h : DataW.Trod enc P w 0 (fun _ => true) true t (.agg cs) d ps)
    (hs : seeable P k t = true) (hB : bulk d ≤ B) : VR 0 (fun _ => ⟨0, 0, 0⟩) (.agg (cs.toList.map embD).toArray) (.agg cs) ∧ Sees P (mem0 w) B k t (cs.toList.map embD) := by
  obtain ⟨fuel, hf⟩ := h
  obtain ⟨g1, g2⟩ := see hb K fuel k t cs.toList _ ht hf hs hB
  refine ⟨.agg _ _ (by simp) fun i h1 h2 => ?_, g2⟩
  have : (cs.toList.map embD).toArray[i] = embD cs[i] := by simp
  rw [this]
  exact embD_VR (g1 _ (by simp))
/-- The arguments read behind the call as they did. -/
theorem trodAll_back (hl : laidOutB P = true) (hm : mapsRowed P = true) (hz : ∀ t e, t < P.types.size → P.underlying t = some (.slice e) → 0 < P.cellsOf e) {W W' : World} (hB : Below W.heap.size W W') (sp : Nat → Bool) :
    ∀ {ts : List TypeId} {vs : List Value} {ds : List (DataW H)} {ps : List MemPlace}, (∀ t ∈ ts, t < P.types.size) → DataW.TrodAll enc P W 0 (fun _ => true) true ts vs ds ps → (∀ p ∈ ps, p.block < W.heap.size) → (∀ p ∈ ps, sp p.block = true) → DataW.TrodAll enc P W' 0 sp true ts vs ds ps := by
  intro ts vs ds ps ht h hlt hsp
  have carry : ∀ {ts : List TypeId} {vs : List Value} {ds : List (DataW H)} {ps : List MemPlace}, DataW.TrodAll enc P W 0 (fun _ => true) true ts vs ds ps → (∀ p ∈ ps, p.block < W.heap.size) → DataW.TrodAll enc P W' 0 (fun _ => true) true ts vs ds ps := by
    intro ts
    induction ts with
    | nil => intro vs ds ps h _; cases vs <;> cases ds <;> exact h
    | cons t ts ih =>
      intro vs ds ps h hlt
      cases vs with
      | nil => cases h
      | cons v vs =>
        cases ds with
        | nil => cases h
        | cons d ds =>
          obtain ⟨p, q, ⟨n, h1⟩, h2, rfl⟩ := h
          refine ⟨p, q, ⟨n, DataW.trod_carry n _ _ _ h1 fun x hx => ?_⟩, ih h2 fun x hx => hlt x (List.mem_append_right _ hx), rfl⟩
          have hx' := hlt x (List.mem_append_left _ hx)
          cases x with
          | cell b o => exact hB.cell hx'
          | map b => exact hB.block b hx'
  exact DataW.TrodAll.respare (kids_rows hl hm) hz ht (carry h hlt) hsp
end
end Go.Sim
