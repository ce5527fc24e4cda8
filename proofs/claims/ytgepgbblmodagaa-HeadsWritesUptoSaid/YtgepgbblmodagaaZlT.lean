/- Layer 20: the program's coding of deltas and logs. -/
import Derived.Test.YtgepgbblmodagaaZlS
set_option linter.unusedSimpArgs false
set_option linter.unusedVariables false
set_option maxRecDepth 100000
namespace Go.Zt
open Go Go.Sim Go.Proofs Go.RowKit
section
variable {U : Nat → Prop} {M N : Mem} {jc jd jt k e : Nat} {d : Dv}
def deltaD (d : Dv) (e : Nat) (v : Int) : Dv × Nat × Int :=
  if (flagD d e (v != 0)).2.2 = false ∨ (flagD d e (v != 0)).2.1 ≠ 0 then ((flagD d e (v != 0)).1, (flagD d e (v != 0)).2.1, v) else
  match (flagD d e (v != 0)).1 with
  | .w l => (.w (wSigned l (IntKind.i32.wrap v) 5).2, (wSigned l (IntKind.i32.wrap v) 5).1, v)
  | .r b p => (.r b (rSigned b p 5).2.2, if (rSigned b p 5).2.1 = 0 ∧ (rSigned b p 5).1 = 0 then 4 else (rSigned b p 5).2.1, (rSigned b p 5).1)
theorem wSigned_len (l : List Nat) (v : Int) : (wSigned l v 5).2.length ≤ l.length + 6 := by
  unfold wSigned
  split
  · simp
  · simp [bitsN_len]
theorem rSigned_b (b : List Nat) (p : Nat) : -32 ≤ (rSigned b p 5).1 ∧ (rSigned b p 5).1 ≤ 32 := by
  have h := numb_lt (bitOf_lt b) (p + 1) (5 : Int).toNat
  have e5 : (5 : Int).toNat = 5 := rfl
  rw [e5] at h
  unfold rSigned
  rw [e5]
  split
  · show (-32 : Int) ≤ 0 ∧ (0 : Int) ≤ 32; omega
  · split
    · show (-32 : Int) ≤ 0 ∧ (0 : Int) ≤ 32; omega
    · split
      · split
        · show (-32 : Int) ≤ 0 ∧ (0 : Int) ≤ 32; omega
        · show (-32 : Int) ≤ -_ ∧ -_ ≤ (32 : Int); omega
      · show (-32 : Int) ≤ _ ∧ _ ≤ (32 : Int); omega
theorem numD_kind {d : Dv} {e : Nat} {v n f : Int} : (∀ l, d = .w l → ∃ l', (numD d e v n f).1 = .w l') ∧ (∀ b p, d = .r b p → ∃ p', (numD d e v n f).1 = .r b p') := by
  unfold numD
  split
  · exact ⟨fun l h => ⟨l, h⟩, fun b p h => ⟨p, h⟩⟩
  · cases d with
    | w l => exact ⟨fun l' _ => ⟨_, rfl⟩, fun b p h => (by cases h)⟩
    | r b p => exact ⟨fun l h => (by cases h), fun b' p' h => (by cases h; exact ⟨_, rfl⟩)⟩
theorem c75 {cs : Array Value} {t : TypeId} {o : Nat} {v : Int} (h : St U M jc jd d e (k + 2)) (a : M.nb[jt]? = some (.cells cs t)) (hf : M.floor ≤ jt) (n1 : jt ≠ jd) (n2 : jt ≠ jc) (n3 : ¬ U jt) (hv : cs[o]? = some (.int .i64 v)) :
    Cn Try.prog 75 #[PtrB jc, .pointer (some ⟨2 * jt, o, none⟩)] M fun u N => u = .tuple #[] ∧ ∃ U', Ext (fun i => i = jc ∨ i = jd ∨ i = jt) U M U' N ∧ St U' N jc jd (deltaD d e v).1 (deltaD d e v).2.1 k ∧ N.nb[jt]? = some (.cells (cs.setIfInBounds o (.int .i64 (deltaD d e v).2.2)) t) ∧ ¬ U' jt := by
  have hjt := lt_of_at a
  have hjd := h.dev.lt
  have hjc := lt_of_at h.cod
  have ho := (Array.getElem?_eq_some_iff.1 hv).1
  refine w75_0 (ad rfl (on (int_of a hv) ?_))
  have q0 := Mem.new_at M (.cells #[.bool false] 4)
  have K0 : Keep M (M.new (.cells #[.bool false] 4)) := .new _ _
  generalize M.new (.cells #[.bool false] 4) = M0 at q0 K0 ⊢
  have f0 : M0.floor ≤ M.nb.size := by rw [K0.floor]; exact h.fs
  obtain ⟨M1, p1, C1, s1, u1⟩ := put1 0 (.bool (v != 0)) q0 f0 (by simp) rfl
  have K1 : Keep M M1 := Keep.step K0 C1 fun i hi => by omega
  have nU : ¬ U M.nb.size := fun hu => by have := h.ub _ hu; omega
  refine pt p1 (Cn.mono (c73 (h.keep K1) u1 (by rw [K1.floor]; exact h.fs) (by omega) (by omega) nU (b := v != 0) rfl) ?_)
  rintro _ N4 ⟨_, U4, E4, S4, u4, nu4⟩
  have E4' : Ext (fun i => i = jc ∨ i = jd ∨ i = jt) U M U4 N4 := by
    refine ⟨fun i hi => (E4.sub i hi).imp id fun q => Nat.le_trans K1.size q, ⟨E4.chg.base.trans K1.base, E4.chg.floor.trans K1.floor, Nat.le_trans K1.size E4.chg.size, fun j hj hs => ?_⟩⟩
    exact (E4.chg.same j (Nat.lt_of_lt_of_le hj K1.size) fun hh => hh.elim (fun q => hs (.inl q)) fun q => q.elim (fun q => hs (.inr (.inl q))) fun q => q.elim (fun q => hs (.inr (.inr (.inl q)))) fun q => by omega).trans (K1.same j hj fun x => x)
  have at4 := E4.at (at_keep a K1) n3 fun hh => by omega
  have ff : N4.floor ≤ jt := by rw [E4'.chg.floor]; exact hf
  have done : ((flagD d e (v != 0)).2.2 = false ∨ (flagD d e (v != 0)).2.1 ≠ 0) → A75_1 (some ⟨2 * jc, 0, none⟩) (some ⟨2 * jt, o, none⟩) true N4 fun u N => u = .tuple #[] ∧ ∃ U', Ext (fun i => i = jc ∨ i = jd ∨ i = jt) U M U' N ∧ St U' N jc jd (deltaD d e v).1 (deltaD d e v).2.1 k ∧ N.nb[jt]? = some (.cells (cs.setIfInBounds o (.int .i64 (deltaD d e v).2.2)) t) ∧ ¬ U' jt := by
    intro hh
    have q : deltaD d e v = ((flagD d e (v != 0)).1, (flagD d e (v != 0)).2.1, v) := by unfold deltaD; rw [if_pos hh]
    rw [q]
    exact w75_1 (cT rfl ⟨rfl, U4, E4', S4.mono (by omega), by rw [setSame hv]; exact at4.1, at4.2⟩)
  refine on (bool_of u4 rfl) (cnn (fun hb => done (.inl hb)) fun hb => ad rfl (on (int_of S4.cod rfl) ?_))
  by_cases he : (flagD d e (v != 0)).2.1 ≠ 0
  · rw [show (((flagD d e (v != 0)).2.1 : Nat) : Int) != 0 by simp; exact he]
    exact done (.inr he)
  have he : (flagD d e (v != 0)).2.1 = 0 := by omega
  rw [show ((((flagD d e (v != 0)).2.1 : Nat) : Int) != 0) = false by rw [he]; rfl]
  rw [he] at S4
  have q : deltaD d e v = match (flagD d e (v != 0)).1 with
  | .w l => (.w (wSigned l (IntKind.i32.wrap v) 5).2, (wSigned l (IntKind.i32.wrap v) 5).1, v)
  | .r b p => (.r b (rSigned b p 5).2.2, if (rSigned b p 5).2.1 = 0 ∧ (rSigned b p 5).1 = 0 then 4 else (rSigned b p 5).2.1, (rSigned b p 5).1) := by
    unfold deltaD; rw [if_neg (by rw [hb, he]; simp)]
  rw [q]
  clear q done
  generalize (flagD d e (v != 0)).1 = d1 at *
  cases d1 with
  | w l =>
    have hl := S4.len
    refine w75_1 (cF rfl (ad rfl (on (ptr_of S4.cod rfl) (cT rfl (ad rfl (on (ptr_of S4.cod rfl) (ad rfl (on (int_of at4.1 hv) (Cn.mono (c43 S4.flw S4.dev (v := IntKind.i32.wrap v) (by rw [IntKind.wrap_i32]; omega) 5 (by simp only [Dv.len] at hl; omega)) ?_)))))))))
    rintro _ N ⟨rfl, C, W⟩
    obtain ⟨N2, p, U', E, S⟩ := S4.wr C W (by have := wSigned_len l (IntKind.i32.wrap v); omega) (wSigned l (IntKind.i32.wrap v) 5).1
    have := E.at at4.1 at4.2 fun hh => hh.elim n2 n1
    exact ty rfl (ad rfl (pt p ⟨rfl, U', E4'.trans (E.mono fun i _ hh => hh.imp id .inl), S, by rw [setSame hv]; exact this.1, this.2⟩))
  | r b p =>
    refine w75_1 (cF rfl (ad rfl (on (ptr_of S4.cod rfl) (cF rfl (ad rfl (on (ptr_of S4.cod rfl) (Cn.mono (c82 S4.dev (S4.fl jd (.inr (.inl rfl))) 5) ?_)))))))
    rintro _ N ⟨rfl, C, s, R⟩
    have S5 : St U4 N jc jd (.r b (rSigned b p 5).2.2) 0 (k + 1) := ⟨R, fun i hi => by rw [C.floor]; exact S4.fl i hi, by rw [C.floor, s]; exact S4.fs, at_chg S4.cod C S4.cd, S4.nc, S4.cd, S4.len, by rw [s]; exact S4.ub⟩
    have a5 := at_chg at4.1 C n1
    obtain ⟨N2, p2, C2, s2, S6⟩ := S5.err (rSigned b p 5).2.1
    have a6 := at_chg a5 C2 n2
    have E6 : Ext (fun i => i = jc ∨ i = jd ∨ i = jt) U M U4 N2 := (E4'.trans (Ext.of C fun i _ hh => .inr (.inr (.inl hh)))).trans (Ext.of C2 fun i _ hh => .inr (.inl hh))
    have hr := rSigned_b b p
    have fin : ∀ {N2 : Mem} (e' : Nat), Ext (fun i => i = jc ∨ i = jd ∨ i = jt) U M U4 N2 → St U4 N2 jc jd (.r b (rSigned b p 5).2.2) e' (k + 1) → N2.nb[jt]? = some (.cells cs t) → N2.floor ≤ jt → e' = (if (rSigned b p 5).2.1 = 0 ∧ (rSigned b p 5).1 = 0 then 4 else (rSigned b p 5).2.1) →
        ptS (N2.put (2 * jt) o (.int .i64 (IntKind.i64.wrap (rSigned b p 5).1))) fun M33 => Value.tuple #[] = .tuple #[] ∧ ∃ U', Ext (fun i => i = jc ∨ i = jd ∨ i = jt) U M U' M33 ∧ St U' M33 jc jd (.r b (rSigned b p 5).2.2) (if (rSigned b p 5).2.1 = 0 ∧ (rSigned b p 5).1 = 0 then 4 else (rSigned b p 5).2.1) k ∧ M33.nb[jt]? = some (.cells (cs.setIfInBounds o (.int .i64 (rSigned b p 5).1)) t) ∧ ¬ U' jt := by
      intro N2 e' E S a f he'
      rw [i64w (by omega)]
      obtain ⟨N3, p3, C3, s3, u3⟩ := put1 o (.int .i64 (rSigned b p 5).1) a f ho rfl
      refine pt p3 ⟨rfl, U4, E.trans (Ext.of C3 fun i _ hh => .inr (.inr (.inr hh))), ?_, u3, at4.2⟩
      rw [← he']
      exact (S.chg C3 fun i _ hu hh => by
            subst hh
            rcases hu with hu | hu | hu
            · exact at4.2 hu
            · exact n1 hu
            · exact n2 hu).mono (by omega)
    have f6 : N2.floor ≤ jt := by rw [C2.floor, C.floor]; exact ff
    have bad : ¬ ((rSigned b p 5).2.1 = 0 ∧ (rSigned b p 5).1 = 0) → A75_2 (some ⟨2 * jc, 0, none⟩) (some ⟨2 * jt, o, none⟩) (rSigned b p 5).1 false N2 fun u N => u = .tuple #[] ∧ ∃ U', Ext (fun i => i = jc ∨ i = jd ∨ i = jt) U M U' N ∧ St U' N jc jd (.r b (rSigned b p 5).2.2) (if (rSigned b p 5).2.1 = 0 ∧ (rSigned b p 5).1 = 0 then 4 else (rSigned b p 5).2.1) k ∧ N.nb[jt]? = some (.cells (cs.setIfInBounds o (.int .i64 (rSigned b p 5).1)) t) ∧ ¬ U' jt := fun hh =>
      w75_2 (cF rfl (ad rfl (fin _ E6 S6 a6 f6 (by rw [if_neg hh]))))
    refine ty rfl (ty rfl (ty rfl (ad rfl (pt p2 (ad rfl (on (int_of S6.cod rfl) (ce (fun h0 => ?_) fun h0 => bad fun hh => by omega)))))))
    by_cases hz : (rSigned b p 5).1 = 0
    · have hh : (rSigned b p 5).2.1 = 0 ∧ (rSigned b p 5).1 = 0 := ⟨by omega, hz⟩
      obtain ⟨N3, p3, C3, s3, S7⟩ := S6.err 4
      refine w75_2 (cT (by rw [hz]; rfl) (ad rfl (pt p3 (ad rfl (fin 4 (E6.trans (Ext.of C3 fun i _ hh => .inr (.inl hh))) S7 (at_chg a6 C3 n2) (by rw [C3.floor]; exact f6) (by rw [if_pos hh]))))))
    · rw [show ((rSigned b p 5).1 == 0) = false by simpa using hz]
      exact bad fun hh => hz hh.2
def logD (d : Dv) (e : Nat) (v s : Int) : Dv × Nat × Int :=
  if (numD d e v 2 0).2.1 = 0 ∧ logM (numD d e v 2 0).2.2 s = false then ((numD d e v 2 0).1, 5, (numD d e v 2 0).2.2) else numD d e v 2 0
theorem c76 {cs : Array Value} {t : TypeId} {o : Nat} {v s : Int} (hs : 16 ≤ s ∧ s ≤ 256) (h : St U M jc jd d e (k + 1)) (a : M.nb[jt]? = some (.cells cs t)) (hf : M.floor ≤ jt) (n1 : jt ≠ jd) (n2 : jt ≠ jc) (n3 : ¬ U jt) (hv : cs[o]? = some (.int .i64 v)) :
    Cn Try.prog 76 #[PtrB jc, .pointer (some ⟨2 * jt, o, none⟩), .int .i64 s] M fun u N => u = .tuple #[] ∧ ∃ U', Ext (fun i => i = jc ∨ i = jd ∨ i = jt) U M U' N ∧ St U' N jc jd (logD d e v s).1 (logD d e v s).2.1 k ∧ N.nb[jt]? = some (.cells (cs.setIfInBounds o (.int .i64 (logD d e v s).2.2)) t) ∧ ¬ U' jt := by
  have ho := (Array.getElem?_eq_some_iff.1 hv).1
  refine w76_0 (Cn.mono (c74 h a hf n1 n2 n3 hv (by decide) (by decide)) ?_)
  rintro _ N ⟨_, U', E, S, a1, nu⟩
  have ok : ¬ ((numD d e v 2 0).2.1 = 0 ∧ logM (numD d e v 2 0).2.2 s = false) → A76_1 (some ⟨2 * jc, 0, none⟩) false N fun u N => u = .tuple #[] ∧ ∃ U', Ext (fun i => i = jc ∨ i = jd ∨ i = jt) U M U' N ∧ St U' N jc jd (logD d e v s).1 (logD d e v s).2.1 k ∧ N.nb[jt]? = some (.cells (cs.setIfInBounds o (.int .i64 (logD d e v s).2.2)) t) ∧ ¬ U' jt := by
    intro hh
    have q : logD d e v s = numD d e v 2 0 := by unfold logD; rw [if_neg hh]
    rw [q]
    exact w76_1 (cF rfl ⟨rfl, U', E, S, a1, nu⟩)
  refine ad rfl (on (int_of S.cod rfl) (ce (fun h0 => ad rfl (on (int_of (i := o) (x := (numD d e v 2 0).2.2) a1 (by simp [ho])) (Cn.eq (c57 hs) (ty rfl ?_)))) fun h0 => ok fun hh => by omega))
  cases hl : logM (numD d e v 2 0).2.2 s with
  | true => exact ok fun hh => by rw [hl] at hh; cases hh.2
  | false =>
    have q : logD d e v s = ((numD d e v 2 0).1, 5, (numD d e v 2 0).2.2) := by unfold logD; rw [if_pos ⟨by omega, hl⟩]
    rw [q]
    obtain ⟨N3, p3, C3, s3, S3⟩ := S.err 5
    exact w76_1 (cT rfl (ad rfl (pt p3 ⟨rfl, U', E.trans (Ext.of C3 fun i _ hh => .inr (.inl hh)), S3, at_chg a1 C3 n2, nu⟩)))
end
end Go.Zt
