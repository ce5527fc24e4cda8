/- Layer 20: the program's coding of deltas and logs. -/
import Derived.Test.YtgepgbblmodagaaZlA
set_option linter.unusedSimpArgs false
set_option linter.unusedVariables false
set_option maxRecDepth 100000
namespace Go.Zt
open Go Go.Sim Go.Proofs Go.RowKit

section
variable {U : Nat → Prop} {M N : Mem} {jc jd jt k e : Nat} {d : Dv}
def deltaD (d : Dv) (e : Nat) (v : Int) : Dv × Nat × Int :=
  if (flagD d e (v != 0)).2.2 = false ∨ (flagD d e (v != 0)).2.1 ≠ 0 then ((flagD d e (v != 0)).1, (flagD d e (v != 0)).2.1, v) else
  match (flagD d e (v != 0)).1 with
  | .w l => (.w (wSigned l (IntKind.i32.wrap v) 5).2, (wSigned l (IntKind.i32.wrap v) 5).1, v)
  | .r b p => (.r b (rSigned b p 5).2.2, if (rSigned b p 5).2.1 = 0 ∧ (rSigned b p 5).1 = 0 then 4 else (rSigned b p 5).2.1, (rSigned b p 5).1)
theorem wSigned_len (l : List Nat) (v : Int) : (wSigned l v 5).2.length ≤ l.length + 6 := by
  unfold wSigned
  split
  · simp
  · simp [bitsN_len]
theorem rSigned_b (b : List Nat) (p : Nat) : -32 ≤ (rSigned b p 5).1 ∧ (rSigned b p 5).1 ≤ 32 := by
  have h := numb_lt (bitOf_lt b) (p + 1) (5 : Int).toNat
  have e5 : (5 : Int).toNat = 5 := rfl
  rw [e5] at h
  unfold rSigned
  rw [e5]
  split
  · show (-32 : Int) ≤ 0 ∧ (0 : Int) ≤ 32; omega
  · split
    · show (-32 : Int) ≤ 0 ∧ (0 : Int) ≤ 32; omega
    · split
      · split
        · show (-32 : Int) ≤ 0 ∧ (0 : Int) ≤ 32; omega
        · show (-32 : Int) ≤ -_ ∧ -_ ≤ (32 : Int); omega
      · show (-32 : Int) ≤ _ ∧ _ ≤ (32 : Int); omega
theorem numD_kind {d : Dv} {e : Nat} {v n f : Int} : (∀ l, d = .w l → ∃ l', (numD d e v n f).1 = .w l') ∧ (∀ b p, d = .r b p → ∃ p', (numD d e v n f).1 = .r b p') := by
  unfold numD
  split
  · exact ⟨fun l h => ⟨l, h⟩, fun b p h => ⟨p, h⟩⟩
  · cases d with
    | w l => exact ⟨fun l' _ => ⟨_, rfl⟩, fun b p h => (by cases h)⟩
    | r b p => exact ⟨fun l h => (by cases h), fun b' p' h => (by cases h; exact ⟨_, rfl⟩)⟩
theorem c75 {cs : Array Value} {t : TypeId} {o : Nat} {v : Int} (h : St U M jc jd d e (k + 2)) (a : M.nb[jt]? = some (.cells cs t)) (hf : M.floor ≤ jt) (n1 : jt ≠ jd) (n2 : jt ≠ jc) (n3 : ¬ U jt) (hv : cs[o]? = some (.int .i64 v)) :
    Cn Try.prog 75 #[PtrB jc, .pointer (some ⟨2 * jt, o, none⟩)] M fun u N => u = .tuple #[] ∧ ∃ U', Ext (fun i => i = jc ∨ i = jd ∨ i = jt) U M U' N ∧ St U' N jc jd (deltaD d e v).1 (deltaD d e v).2.1 k ∧ N.nb[jt]? = some (.cells (cs.setIfInBounds o (.int .i64 (deltaD d e v).2.2)) t) ∧ ¬ U' jt := by
  have hjt := lt_of_at a
  have hjd := h.dev.lt
  have hjc := lt_of_at h.cod
  have ho := (Array.getElem?_eq_some_iff.1 hv).1
  refine w75_0 (ad rfl (on (int_of a hv) ?_))
  have q0 := Mem.new_at M (.cells #[.bool false] 4)
  have K0 : Keep M (M.new (.cells #[.bool false] 4)) := .new _ _
  generalize M.new (.cells #[.bool false] 4) = M0 at q0 K0 ⊢
  have f0 : M0.floor ≤ M.nb.size := by rw [K0.floor]; exact h.fs
  obtain ⟨M1, p1, C1, s1, u1⟩ := put1 0 (.bool (v != 0)) q0 f0 (by simp) rfl
  have K1 : Keep M M1 := Keep.step K0 C1 fun i hi => by omega
  have nU : ¬ U M.nb.size := fun hu => by have := h.ub _ hu; omega
  refine pt p1 (Cn.mono (c73 (h.keep K1) u1 (by rw [K1.floor]; exact h.fs) (by omega) (by omega) nU (b := v != 0) rfl) ?_)
  rintro _ N4 ⟨_, U4, E4, S4, u4, nu4⟩
  have E4' : Ext (fun i => i = jc ∨ i = jd ∨ i = jt) U M U4 N4 := by
    refine ⟨fun i hi => (E4.sub i hi).imp id fun q => Nat.le_trans K1.size q, ⟨E4.chg.base.trans K1.base, E4.chg.floor.trans K1.floor, Nat.le_trans K1.size E4.chg.size, fun j hj hs => ?_⟩⟩
    exact (E4.chg.same j (Nat.lt_of_lt_of_le hj K1.size) fun hh => hh.elim (fun q => hs (.inl q)) fun q => q.elim (fun q => hs (.inr (.inl q))) fun q => q.elim (fun q => hs (.inr (.inr (.inl q)))) fun q => by omega).trans (K1.same j hj fun x => x)
  have at4 := E4.at (at_keep a K1) n3 fun hh => by omega
  have ff : N4.floor ≤ jt := by rw [E4'.chg.floor]; exact hf
  have done : ((flagD d e (v != 0)).2.2 = false ∨ (flagD d e (v != 0)).2.1 ≠ 0) → A75_1 (some ⟨2 * jc, 0, none⟩) (some ⟨2 * jt, o, none⟩) true N4 fun u N => u = .tuple #[] ∧ ∃ U', Ext (fun i => i = jc ∨ i = jd ∨ i = jt) U M U' N ∧ St U' N jc jd (deltaD d e v).1 (deltaD d e v).2.1 k ∧ N.nb[jt]? = some (.cells (cs.setIfInBounds o (.int .i64 (deltaD d e v).2.2)) t) ∧ ¬ U' jt := by
    intro hh
    have q : deltaD d e v = ((flagD d e (v != 0)).1, (flagD d e (v != 0)).2.1, v) := by unfold deltaD; rw [if_pos hh]
    rw [q]
    exact w75_1 (cT rfl ⟨rfl, U4, E4', S4.mono (by omega), by rw [setSame hv]; exact at4.1, at4.2⟩)
  refine on (bool_of u4 rfl) (cnn (fun hb => done (.inl hb)) fun hb => ad rfl (on (int_of S4.cod rfl) ?_))
  by_cases he : (flagD d e (v != 0)).2.1 ≠ 0
  · rw [show (((flagD d e (v != 0)).2.1 : Nat) : Int) != 0 by simp; exact he]
    exact done (.inr he)
  have he : (flagD d e (v != 0)).2.1 = 0 := by omega
  rw [show ((((flagD d e (v != 0)).2.1 : Nat) : Int) != 0) = false by rw [he]; rfl]
  rw [he] at S4
  have q : deltaD d e v = match (flagD d e (v != 0)).1 with
  | .w l => (.w (wSigned l (IntKind.i32.wrap v) 5).2, (wSigned l (IntKind.i32.wrap v) 5).1, v)
  | .r b p => (.r b (rSigned b p 5).2.2, if (rSigned b p 5).2.1 = 0 ∧ (rSigned b p 5).1 = 0 then 4 else (rSigned b p 5).2.1, (rSigned b p 5).1) := by
    unfold deltaD; rw [if_neg (by rw [hb, he]; simp)]
  rw [q]
  clear q done
  generalize (flagD d e (v != 0)).1 = d1 at *
  cases d1 with
  | w l =>
    have hl := S4.len
    refine w75_1 (cF rfl (ad rfl (on (ptr_of S4.cod rfl) (cT rfl (ad rfl (on (ptr_of S4.cod rfl) (ad rfl (on (int_of at4.1 hv) (Cn.mono (c43 S4.flw S4.dev (v := IntKind.i32.wrap v) (by rw [IntKind.wrap_i32]; omega) 5 (by simp only [Dv.len] at hl; omega)) ?_)))))))))
    rintro _ N ⟨rfl, C, W⟩
    obtain ⟨N2, p, U', E, S⟩ := S4.wr C W (by have := wSigned_len l (IntKind.i32.wrap v); omega) (wSigned l (IntKind.i32.wrap v) 5).1
    have := E.at at4.1 at4.2 fun hh => hh.elim n2 n1
    exact ty rfl (ad rfl (pt p ⟨rfl, U', E4'.trans (E.mono fun i _ hh => hh.imp id .inl), S, by rw [setSame hv]; exact this.1, this.2⟩))
  | r b p =>
    refine w75_1 (cF rfl (ad rfl (on (ptr_of S4.cod rfl) (cF rfl (ad rfl (on (ptr_of S4.cod rfl) (Cn.mono (c82 S4.dev (S4.fl jd (.inr (.inl rfl))) 5) ?_)))))))
    rintro _ N ⟨rfl, C, s, R⟩
    have S5 : St U4 N jc jd (.r b (rSigned b p 5).2.2) 0 (k + 1) := ⟨R, fun i hi => by rw [C.floor]; exact S4.fl i hi, by rw [C.floor, s]; exact S4.fs, at_chg S4.cod C S4.cd, S4.nc, S4.cd, S4.len, by rw [s]; exact S4.ub⟩
    have a5 := at_chg at4.1 C n1
    obtain ⟨N2, p2, C2, s2, S6⟩ := S5.err (rSigned b p 5).2.1
    have a6 := at_chg a5 C2 n2
    have E6 : Ext (fun i => i = jc ∨ i = jd ∨ i = jt) U M U4 N2 := (E4'.trans (Ext.of C fun i _ hh => .inr (.inr (.inl hh)))).trans (Ext.of C2 fun i _ hh => .inr (.inl hh))
    have hr := rSigned_b b p
    have fin : ∀ {N2 : Mem} (e' : Nat), Ext (fun i => i = jc ∨ i = jd ∨ i = jt) U M U4 N2 → St U4 N2 jc jd (.r b (rSigned b p 5).2.2) e' (k + 1) → N2.nb[jt]? = some (.cells cs t) → N2.floor ≤ jt → e' = (if (rSigned b p 5).2.1 = 0 ∧ (rSigned b p 5).1 = 0 then 4 else (rSigned b p 5).2.1) →
        ptS (N2.put (2 * jt) o (.int .i64 (IntKind.i64.wrap (rSigned b p 5).1))) fun M33 => Value.tuple #[] = .tuple #[] ∧ ∃ U', Ext (fun i => i = jc ∨ i = jd ∨ i = jt) U M U' M33 ∧ St U' M33 jc jd (.r b (rSigned b p 5).2.2) (if (rSigned b p 5).2.1 = 0 ∧ (rSigned b p 5).1 = 0 then 4 else (rSigned b p 5).2.1) k ∧ M33.nb[jt]? = some (.cells (cs.setIfInBounds o (.int .i64 (rSigned b p 5).1)) t) ∧ ¬ U' jt := by
      intro N2 e' E S a f he'
      rw [i64w (by omega)]
      obtain ⟨N3, p3, C3, s3, u3⟩ := put1 o (.int .i64 (rSigned b p 5).1) a f ho rfl
      refine pt p3 ⟨rfl, U4, E.trans (Ext.of C3 fun i _ hh => .inr (.inr (.inr hh))), ?_, u3, at4.2⟩
      rw [← he']
      exact (S.chg C3 fun i _ hu hh => by
            subst hh
            rcases hu with hu | hu | hu
            · exact at4.2 hu
            · exact n1 hu
            · exact n2 hu).mono (by omega)
    have f6 : N2.floor ≤ jt := by rw [C2.floor, C.floor]; exact ff
    have bad : ¬ ((rSigned b p 5).2.1 = 0 ∧ (rSigned b p 5).1 = 0) → A75_2 (some ⟨2 * jc, 0, none⟩) (some ⟨2 * jt, o, none⟩) (rSigned b p 5).1 false N2 fun u N => u = .tuple #[] ∧ ∃ U', Ext (fun i => i = jc ∨ i = jd ∨ i = jt) U M U' N ∧ St U' N jc jd (.r b (rSigned b p 5).2.2) (if (rSigned b p 5).2.1 = 0 ∧ (rSigned b p 5).1 = 0 then 4 else (rSigned b p 5).2.1) k ∧ N.nb[jt]? = some (.cells (cs.setIfInBounds o (.int .i64 (rSigned b p 5).1)) t) ∧ ¬ U' jt := fun hh =>
      w75_2 (cF rfl (ad rfl (fin _ E6 S6 a6 f6 (by rw [if_neg hh]))))
    refine ty rfl (ty rfl (ty rfl (ad rfl (pt p2 (ad rfl (on (int_of S6.cod rfl) (ce (fun h0 => ?_) fun h0 => bad fun hh => by omega)))))))
    by_cases hz : (rSigned b p 5).1 = 0
    · have hh : (rSigned b p 5).2.1 = 0 ∧ (rSigned b p 5).1 = 0 := ⟨by omega, hz⟩
      obtain ⟨N3, p3, C3, s3, S7⟩ := S6.err 4
      refine w75_2 (cT (by rw [hz]; rfl) (ad rfl (pt p3 (ad rfl (fin 4 (E6.trans (Ext.of C3 fun i _ hh => .inr (.inl hh))) S7 (at_chg a6 C3 n2) (by rw [C3.floor]; exact f6) (by rw [if_pos hh]))))))
    · rw [show ((rSigned b p 5).1 == 0) = false by simpa using hz]
      exact bad fun hh => hz hh.2
def logD (d : Dv) (e : Nat) (v s : Int) : Dv × Nat × Int :=
  if (numD d e v 2 0).2.1 = 0 ∧ logM (numD d e v 2 0).2.2 s = false then ((numD d e v 2 0).1, 5, (numD d e v 2 0).2.2) else numD d e v 2 0
theorem c76 {cs : Array Value} {t : TypeId} {o : Nat} {v s : Int} (hs : 16 ≤ s ∧ s ≤ 256) (h : St U M jc jd d e (k + 1)) (a : M.nb[jt]? = some (.cells cs t)) (hf : M.floor ≤ jt) (n1 : jt ≠ jd) (n2 : jt ≠ jc) (n3 : ¬ U jt) (hv : cs[o]? = some (.int .i64 v)) :
    Cn Try.prog 76 #[PtrB jc, .pointer (some ⟨2 * jt, o, none⟩), .int .i64 s] M fun u N => u = .tuple #[] ∧ ∃ U', Ext (fun i => i = jc ∨ i = jd ∨ i = jt) U M U' N ∧ St U' N jc jd (logD d e v s).1 (logD d e v s).2.1 k ∧ N.nb[jt]? = some (.cells (cs.setIfInBounds o (.int .i64 (logD d e v s).2.2)) t) ∧ ¬ U' jt := by
  have ho := (Array.getElem?_eq_some_iff.1 hv).1
  refine w76_0 (Cn.mono (c74 h a hf n1 n2 n3 hv (by decide) (by decide)) ?_)
  rintro _ N ⟨_, U', E, S, a1, nu⟩
  have ok : ¬ ((numD d e v 2 0).2.1 = 0 ∧ logM (numD d e v 2 0).2.2 s = false) → A76_1 (some ⟨2 * jc, 0, none⟩) false N fun u N => u = .tuple #[] ∧ ∃ U', Ext (fun i => i = jc ∨ i = jd ∨ i = jt) U M U' N ∧ St U' N jc jd (logD d e v s).1 (logD d e v s).2.1 k ∧ N.nb[jt]? = some (.cells (cs.setIfInBounds o (.int .i64 (logD d e v s).2.2)) t) ∧ ¬ U' jt := by
    intro hh
    have q : logD d e v s = numD d e v 2 0 := by unfold logD; rw [if_neg hh]
    rw [q]
    exact w76_1 (cF rfl ⟨rfl, U', E, S, a1, nu⟩)
  refine ad rfl (on (int_of S.cod rfl) (ce (fun h0 => ad rfl (on (int_of (i := o) (x := (numD d e v 2 0).2.2) a1 (by simp [ho])) (Cn.eq (c57 hs) (ty rfl ?_)))) fun h0 => ok fun hh => by omega))
  cases hl : logM (numD d e v 2 0).2.2 s with
  | true => exact ok fun hh => by rw [hl] at hh; cases hh.2
  | false =>
    have q : logD d e v s = ((numD d e v 2 0).1, 5, (numD d e v 2 0).2.2) := by unfold logD; rw [if_pos ⟨by omega, hl⟩]
    rw [q]
    obtain ⟨N3, p3, C3, s3, S3⟩ := S.err 5
    exact w76_1 (cT rfl (ad rfl (pt p3 ⟨rfl, U', E.trans (Ext.of C3 fun i _ hh => .inr (.inl hh)), S3, at_chg a1 C3 n2, nu⟩)))
end
end Go.Zt


/- Layer 20: the program's coding of filters. -/
set_option linter.unusedSimpArgs false
set_option linter.unusedVariables false
set_option maxRecDepth 100000
namespace Go.Zt
open Go Go.Sim Go.Proofs Go.RowKit

section
variable {U : Nat → Prop} {M N : Mem} {jc jd jh jx k e : Nat} {d : Dv} {h : Hd} {X : List Sg}
/-- A number that is told and stays where it is. -/
theorem c74o {l : List Nat} (hh : St U M jc jd (.w l) e (k + 1)) {a : Addr} {v n f : Int} (hv : M.intAt .i64 a.block a.off = some v) (hn : n ≤ 32) :
    Cn Try.prog 74 #[PtrB jc, .pointer (some a), .int .i64 n, .int .i64 f] M fun u N => u = .tuple #[] ∧ ∃ U', Ext (fun i => i = jc ∨ i = jd) U M U' N ∧ St U' N jc jd (numD (.w l) e v n f).1 (numD (.w l) e v n f).2.1 k := by
  by_cases he : e ≠ 0
  · have q : numD (.w l) e v n f = (.w l, e, v) := by unfold numD; rw [if_pos he]
    rw [q]
    refine Cn.mono (c74e hh he) ?_
    rintro _ N ⟨rfl, rfl⟩
    exact ⟨rfl, U, .refl, hh.mono (by omega)⟩
  · obtain rfl : e = 0 := by omega
    exact c74w hh hv hn
/-! ### Strengths -/
def sg1 (d : Dv) (e : Nat) (x : Sg) : Dv × Nat × Sg :=
  let r1 := numD d e x.a 4 0
  let r2 := numD r1.1 r1.2.1 x.b 2 0
  let r3 := numD r2.1 r2.2.1 x.c 4 0
  let r4 := numD r3.1 r3.2.1 x.d 2 0
  (r4.1, r4.2.1, ⟨r1.2.2, r2.2.2, r3.2.2, r4.2.2⟩)
def sgsD (d : Dv) (e : Nat) : List Sg → Dv × Nat × List Sg
  | [] => (d, e, [])
  | x :: X => ((sgsD (sg1 d e x).1 (sg1 d e x).2.1 X).1, (sgsD (sg1 d e x).1 (sg1 d e x).2.1 X).2.1, (sg1 d e x).2.2 :: (sgsD (sg1 d e x).1 (sg1 d e x).2.1 X).2.2)
/-- What reads of a writer's row: its memory stands apart. -/
def Far (U : Nat → Prop) (jc jd jh : Nat) (M : Mem) (A : Option Addr) : Prop := ∀ a, A = some a → a.block % 2 = 1 ∨ (a.block / 2 < M.nb.size ∧ ¬ U (a.block / 2) ∧ a.block / 2 ≠ jc ∧ a.block / 2 ≠ jd ∧ a.block / 2 ≠ jh)
theorem Far.ext {A : Option Addr} {U' : Nat → Prop} {P : Nat → Prop} (hF : Far U jc jd jh M A) (E : Ext P U M U' N) (hP : ∀ i, P i → i = jc ∨ i = jd ∨ i = jh) : Far U' jc jd jh N A := fun a ha =>
  (hF a ha).imp id fun ⟨q1, q2, q3, q4, q5⟩ => ⟨Nat.lt_of_lt_of_le q1 E.chg.size, fun hu => (E.sub _ hu).elim q2 fun q => by omega, q3, q4, q5⟩
theorem Far.row {A : Option Addr} {U' : Nat → Prop} {P : Nat → Prop} {L : List Value} (hF : Far U jc jd jh M A) (hR : Row M A L) (E : Ext P U M U' N) (hP : ∀ i, P i → i = jc ∨ i = jd ∨ i = jh) : Row N A L :=
  hR.chg E.chg fun a ha => (hF a ha).imp id fun ⟨q1, q2, q3, q4, q5⟩ => fun hs => hs.elim q2 fun hp => by rcases hP _ hp with hp | hp | hp <;> omega
/-- What comes behind the strengths. -/
def Aft (U : Nat → Prop) (M : Mem) (jc jd jh : Nat) (h : Hd) (X : List Sg) (d : Dv) (e k : Nat) (U' : Nat → Prop) (N : Mem) : Prop :=
  Ext (fun i => i = jc ∨ i = jd ∨ i = jh) U M U' N ∧ St U' N jc jd d e k ∧ ¬ U' jh ∧ N.nb[jh]? = some (.cells h.cs 41) ∧ h.n = X.length ∧ Row N h.A (Sgs X) ∧ Far U' jc jd jh N h.A
theorem e78_5w {Q : Value → Mem → Prop} {l : List Nat} (nh : jh ≠ jc ∧ jh ≠ jd) (hb : h.n ≤ 1048576) (hn : h.n = X.length) : ∀ (q i : Nat) {U : Nat → Prop} {M : Mem} {l : List Nat} {e : Nat} (k : Nat), i + q = h.n → St U M jc jd (.w l) e (k + 4 * q) → ¬ U jh →
    M.nb[jh]? = some (.cells h.cs 41) → Row M h.A (Sgs X) → Far U jc jd jh M h.A →
    (∀ U' N l', (sgsD (.w l) e (X.drop i)).1 = .w l' → Aft U M jc jd jh h X (.w l') (sgsD (.w l) e (X.drop i)).2.1 k U' N → A78_4 (some ⟨2 * jc, 0, none⟩) (some ⟨2 * jh, 0, none⟩) 0 N Q) →
    A78_5 (some ⟨2 * jc, 0, none⟩) (some ⟨2 * jh, 0, none⟩) (h.n : Int) (i : Int) M Q
  | 0, i, U, M, l, e, k, hi, S, nU, a, hR, hF, hQ => by
    refine w78_5 (cF (decide_eq_false (by omega)) (hQ U M l ?_ ⟨.refl, ?_, nU, a, hn, hR, hF⟩))
    · rw [List.drop_of_length_le (by omega)]; rfl
    · rw [List.drop_of_length_le (by omega)]; exact S
  | q + 1, i, U, M, l, e, k, hi, S, nU, a, hR, hF, hQ => by
    have hlt : i < X.length := by omega
    have P2 : ∀ i, (i = jc ∨ i = jd) → i = jc ∨ i = jd ∨ i = jh := fun i hi => hi.imp id .inl
    have nP : ¬ (jh = jc ∨ jh = jd) := fun hh => hh.elim nh.1 nh.2
    have kind : ∀ {l : List Nat} {e : Nat} {v n f : Int}, ∃ l', (numD (.w l) e v n f).1 = .w l' := numD_kind.1 _ rfl
    -- one number
    have one : ∀ {U1 : Nat → Prop} {M1 : Mem} {l1 : List Nat} {e1 k1 : Nat} {v : Int} {p : Addr} {n : Int} {K : Mem → Prop}, n ≤ 32 → Ext (fun i => i = jc ∨ i = jd) U M U1 M1 → St U1 M1 jc jd (.w l1) e1 (k1 + 1) → M1.intAt .i64 p.block p.off = some v →
        (∀ U2 N l2, Ext (fun i => i = jc ∨ i = jd) U M U2 N → (numD (.w l1) e1 v n 0).1 = .w l2 → St U2 N jc jd (.w l2) (numD (.w l1) e1 v n 0).2.1 k1 → K N) →
        Cn Try.prog 74 #[PtrB jc, .pointer (some p), .int .i64 n, .int .i64 0] M1 fun _ N => K N := by
      intro U1 M1 l1 e1 k1 v p n K hn E1 S1 hv hK
      refine Cn.mono (c74o S1 hv hn) ?_
      rintro _ N ⟨_, U2, E2, S2⟩
      obtain ⟨l2, hl2⟩ := kind (l := l1) (e := e1) (v := v) (n := n) (f := 0)
      rw [hl2] at S2
      exact hK U2 N l2 (E1.trans E2) hl2 S2
    obtain ⟨p, g0, _, _, _, _⟩ := Sgs.elt hR (n := h.n) (i := i) (z := (i : Int)) rfl (by omega) hlt
    have cells : ∀ {U1 : Nat → Prop} {M1 : Mem}, Ext (fun i => i = jc ∨ i = jd) U M U1 M1 → M1.intAt .i64 p.block p.off = some X[i].a ∧ M1.intAt .i64 p.block (p.off + 1) = some X[i].b ∧ M1.intAt .i64 p.block (p.off + 2) = some X[i].c ∧ M1.intAt .i64 p.block (p.off + 3) = some X[i].d := by
      intro U1 M1 E
      obtain ⟨p', g0', g⟩ := Sgs.elt (hF.row hR E P2) (n := h.n) (i := i) (z := (i : Int)) rfl (by omega) hlt
      rw [g0] at g0'
      obtain rfl := Option.some.inj g0'
      exact g
    have ed : sgsD (.w l) e (X.drop i) = sgsD (.w l) e (X[i] :: X.drop (i + 1)) := by rw [List.drop_eq_getElem_cons hlt]
    rw [ed] at hQ
    refine w78_5 (cT (decide_eq_true (by omega)) (ad rfl (on (sl_of a rfl) (ix g0 ?_))))
    refine one (by decide) .refl (k1 := k + 4 * q + 3) (by rw [show k + 4 * q + 3 + 1 = k + 4 * (q + 1) by omega]; exact S) (cells .refl).1 fun U2 N2 l2 E2 h2 S2 => ?_
    refine one (by decide) E2 (k1 := k + 4 * q + 2) S2 (cells E2).2.1 fun U3 N3 l3 E3 h3 S3 => ?_
    refine one (by decide) E3 (k1 := k + 4 * q + 1) S3 (cells E3).2.2.1 fun U4 N4 l4 E4 h4 S4 => ?_
    refine one (by decide) E4 (k1 := k + 4 * q) S4 (cells E4).2.2.2 fun U5 N5 l5 E5 h5 S5 => ?_
    have s1 : sg1 (.w l) e X[i] = (.w l5, (numD (.w l4) (numD (.w l3) (numD (.w l2) (numD (.w l) e X[i].a 4 0).2.1 X[i].b 2 0).2.1 X[i].c 4 0).2.1 X[i].d 2 0).2.1, (sg1 (.w l) e X[i]).2.2) := by
      unfold sg1
      simp only [h2, h3, h4, h5]
    have t1 : (sg1 (.w l) e X[i]).1 = .w l5 := by rw [s1]
    have t2 : (sg1 (.w l) e X[i]).2.1 = (numD (.w l4) (numD (.w l3) (numD (.w l2) (numD (.w l) e X[i].a 4 0).2.1 X[i].b 2 0).2.1 X[i].c 4 0).2.1 X[i].d 2 0).2.1 := by rw [s1]
    rw [i64w (by omega)]
    have a5 := E5.at a nU nP
    refine e78_5w (l := l5) nh hb hn q (i + 1) k (by omega) S5 a5.2 a5.1 (hF.row hR E5 P2) (hF.ext E5 P2) fun U' N l' hl' H => ?_
    simp only [sgsD, t1, t2] at hQ
    exact hQ U' N l' hl' ⟨(E5.mono fun i _ hi => P2 i hi).trans H.1, H.2⟩
end
end Go.Zt


/- Layer 20: the program's coding of strengths that are read; of fields. -/
set_option linter.unusedSimpArgs false
set_option linter.unusedVariables false
set_option maxRecDepth 100000
namespace Go.Zt
open Go Go.Sim Go.Proofs Go.RowKit

theorem Sgs_set : ∀ (X : List Sg) (i : Nat) (h : i < X.length) (o : Nat) (ho : o < 4) (x' : Sg) (v : Value), x'.cells = (X[i]).cells.set o v → (Sgs X).set (i * 4 + o) v = Sgs (X.set i x')
  | [], i, h, _, _, _, _, _ => by simp at h
  | x :: X, 0, h, o, ho, x', v, e => by
    simp only [Sgs, List.flatMap_cons, Nat.zero_mul, Nat.zero_add, List.set_cons_zero]
    rw [List.set_append_left _ _ (by simpa using ho), e]; rfl
  | x :: X, i + 1, h, o, ho, x', v, e => by
    simp only [Sgs, List.flatMap_cons, List.set_cons_succ]
    rw [List.set_append_right _ _ (by simp; omega)]
    congr 1
    rw [show (i + 1) * 4 + o - (x.cells).length = i * 4 + o by simp; omega]
    exact Sgs_set X i (by simpa using h) o ho x' v e
section
variable {U : Nat → Prop} {M N : Mem} {jc jd jh jx k e : Nat} {d : Dv} {h : Hd} {X : List Sg}
theorem Sgs_arr {i o : Nat} (hi : i < X.length) (ho : o < 4) : (Sgs X).toArray[i * 4 + o]? = (X[i]).cells[o]? := by
  rw [List.getElem?_toArray]; exact Sgs_at hi o ho
theorem Sgs_aset {i o : Nat} (hi : i < X.length) (ho : o < 4) {x' : Sg} {v : Value} (e : x'.cells = (X[i]).cells.set o v) : (Sgs X).toArray.setIfInBounds (i * 4 + o) v = (Sgs (X.set i x')).toArray := by
  rw [List.setIfInBounds_toArray, Sgs_set X i hi o ho x' v e]
/-- One strength is read in its place. -/
theorem one4 {Q : Mem → Prop} {i : Nat} (hi : i < X.length) (S : St U M jc jd d e (k + 4)) (a : M.nb[jx]? = some (.cells (Sgs X).toArray 96)) (hf : M.floor ≤ jx) (n1 : jx ≠ jd) (n2 : jx ≠ jc) (n3 : ¬ U jx)
    (K : ∀ U' N, Ext (fun i => i = jc ∨ i = jd ∨ i = jx) U M U' N → St U' N jc jd (sg1 d e X[i]).1 (sg1 d e X[i]).2.1 k → N.nb[jx]? = some (.cells (Sgs (X.set i (sg1 d e X[i]).2.2)).toArray 96) → ¬ U' jx → Q N) :
    Cn Try.prog 74 #[PtrB jc, .pointer (some ⟨2 * jx, i * 4 + 0, none⟩), .int .i64 4, .int .i64 0] M fun _ N1 => Cn Try.prog 74 #[PtrB jc, .pointer (some ⟨2 * jx, i * 4 + 1, none⟩), .int .i64 2, .int .i64 0] N1 fun _ N2 =>
      Cn Try.prog 74 #[PtrB jc, .pointer (some ⟨2 * jx, i * 4 + 2, none⟩), .int .i64 4, .int .i64 0] N2 fun _ N3 => Cn Try.prog 74 #[PtrB jc, .pointer (some ⟨2 * jx, i * 4 + 3, none⟩), .int .i64 2, .int .i64 0] N3 fun _ N4 => Q N4 := by
  have hl : ∀ (Y : List Sg) (x : Sg), Y.length = X.length → i < (Y.set i x).length := fun Y x hY => by simp [hY]; exact hi
  have get : ∀ (Y : List Sg) (x : Sg) (hY : i < (Y.set i x).length), (Y.set i x)[i] = x := fun Y x hY => by simp
  refine Cn.mono (c74 S a hf n1 n2 n3 (o := i * 4 + 0) (v := X[i].a) (by rw [Sgs_arr hi (by decide)]; rfl) (by decide) (by decide)) ?_
  rintro _ N1 ⟨_, U1, E1, S1, a1, nu1⟩
  rw [Sgs_aset (x' := ⟨(numD d e X[i].a 4 0).2.2, X[i].b, X[i].c, X[i].d⟩) hi (by decide) rfl] at a1
  generalize hx1 : (⟨(numD d e X[i].a 4 0).2.2, X[i].b, X[i].c, X[i].d⟩ : Sg) = x1 at a1
  have f1 : N1.floor ≤ jx := by rw [E1.chg.floor]; exact hf
  have i1 := hl X x1 rfl
  refine Cn.mono (c74 S1 a1 f1 n1 n2 nu1 (o := i * 4 + 1) (v := X[i].b) (by rw [Sgs_arr i1 (by decide), get, ← hx1]; rfl) (by decide) (by decide)) ?_
  rintro _ N2 ⟨_, U2, E2, S2, a2, nu2⟩
  rw [Sgs_aset (x' := ⟨x1.a, (numD (numD d e X[i].a 4 0).1 (numD d e X[i].a 4 0).2.1 X[i].b 2 0).2.2, X[i].c, X[i].d⟩) i1 (by decide) (by rw [get, ← hx1]; rfl), List.set_set] at a2
  generalize hx2 : (⟨x1.a, (numD (numD d e X[i].a 4 0).1 (numD d e X[i].a 4 0).2.1 X[i].b 2 0).2.2, X[i].c, X[i].d⟩ : Sg) = x2 at a2
  have f2 : N2.floor ≤ jx := by rw [E2.chg.floor]; exact f1
  have i2 := hl X x2 rfl
  refine Cn.mono (c74 S2 a2 f2 n1 n2 nu2 (o := i * 4 + 2) (v := X[i].c) (by rw [Sgs_arr i2 (by decide), get, ← hx2]; rfl) (by decide) (by decide)) ?_
  rintro _ N3 ⟨_, U3, E3, S3, a3, nu3⟩
  generalize hr2 : numD (numD d e X[i].a 4 0).1 (numD d e X[i].a 4 0).2.1 X[i].b 2 0 = r2 at *
  rw [Sgs_aset (x' := ⟨x1.a, x2.b, (numD r2.1 r2.2.1 X[i].c 4 0).2.2, X[i].d⟩) i2 (by decide) (by rw [get, ← hx2]; rfl), List.set_set] at a3
  generalize hx3 : (⟨x1.a, x2.b, (numD r2.1 r2.2.1 X[i].c 4 0).2.2, X[i].d⟩ : Sg) = x3 at a3
  have f3 : N3.floor ≤ jx := by rw [E3.chg.floor]; exact f2
  have i3 := hl X x3 rfl
  refine Cn.mono (c74 S3 a3 f3 n1 n2 nu3 (o := i * 4 + 3) (v := X[i].d) (by rw [Sgs_arr i3 (by decide), get, ← hx3]; rfl) (by decide) (by decide)) ?_
  rintro _ N4 ⟨_, U4, E4, S4, a4, nu4⟩
  generalize hr3 : numD r2.1 r2.2.1 X[i].c 4 0 = r3 at *
  rw [Sgs_aset (x' := ⟨x1.a, x2.b, x3.c, (numD r3.1 r3.2.1 X[i].d 2 0).2.2⟩) i3 (by decide) (by rw [get, ← hx3]; rfl), List.set_set] at a4
  have e1 : sg1 d e X[i] = ((numD r3.1 r3.2.1 X[i].d 2 0).1, (numD r3.1 r3.2.1 X[i].d 2 0).2.1, ⟨x1.a, x2.b, x3.c, (numD r3.1 r3.2.1 X[i].d 2 0).2.2⟩) := by
    subst hx3 hx2 hx1
    unfold sg1
    simp only [hr2, hr3]
  refine K U4 N4 (((E1.trans E2).trans E3).trans E4) ?_ ?_ nu4
  · rw [e1]; exact S4
  · rw [e1]; exact a4
/-- The strengths are read in their places. -/
theorem e78_5r {Q : Value → Mem → Prop} (nh : jh ≠ jc ∧ jh ≠ jd) (nx : jx ≠ jd ∧ jx ≠ jc ∧ jx ≠ jh) (hA : h.A = some ⟨2 * jx, 0, none⟩) (hb : h.n ≤ 1048576) : ∀ (q i : Nat) {U : Nat → Prop} {M : Mem} {d : Dv} {e : Nat} {X : List Sg} (k : Nat), i + q = h.n → h.n = X.length → St U M jc jd d e (k + 4 * q) → ¬ U jh → ¬ U jx →
    M.nb[jh]? = some (.cells h.cs 41) → M.nb[jx]? = some (.cells (Sgs X).toArray 96) → M.floor ≤ jx →
    (∀ U' N X', X' = X.take i ++ (sgsD d e (X.drop i)).2.2 → Ext (fun i => i = jc ∨ i = jd ∨ i = jx) U M U' N → St U' N jc jd (sgsD d e (X.drop i)).1 (sgsD d e (X.drop i)).2.1 k → ¬ U' jh → ¬ U' jx → N.nb[jh]? = some (.cells h.cs 41) → N.nb[jx]? = some (.cells (Sgs X').toArray 96) → h.n = X'.length →
      A78_4 (some ⟨2 * jc, 0, none⟩) (some ⟨2 * jh, 0, none⟩) 0 N Q) →
    A78_5 (some ⟨2 * jc, 0, none⟩) (some ⟨2 * jh, 0, none⟩) (h.n : Int) (i : Int) M Q
  | 0, i, U, M, d, e, X, k, hi, hn, S, nU, nX, a, ax, hf, hQ => by
    have e1 : X.drop i = [] := List.drop_of_length_le (by omega)
    rw [e1] at hQ
    exact w78_5 (cF (decide_eq_false (by omega)) (hQ U M X (by rw [List.take_of_length_le (by omega)]; simp [sgsD]) .refl S nU nX a ax hn))
  | q + 1, i, U, M, d, e, X, k, hi, hn, S, nU, nX, a, ax, hf, hQ => by
    have hlt : i < X.length := by omega
    have g0 : idxA h.A h.n 4 (i : Int) = some ⟨2 * jx, 0 + i * 4, none⟩ := by
      unfold idxA; rw [if_pos ⟨by omega, by omega⟩, hA]; rfl
    refine w78_5 (cT (decide_eq_true (by omega)) (ad rfl (on (sl_of a rfl) (ix g0 ?_))))
    have key := one4 (Q := fun N => A78_5 (some ⟨2 * jc, 0, none⟩) (some ⟨2 * jh, 0, none⟩) (h.n : Int) (IntKind.i64.wrap ((i : Int) + 1)) N Q) (k := k + 4 * q) hlt (by rw [show k + 4 * q + 4 = k + 4 * (q + 1) by omega]; exact S) ax hf nx.1 nx.2.1 nX fun U' N E S' ax' nX' => by
      have ah := E.at a nU fun hh => by omega
      rw [i64w (by omega)]
      refine e78_5r (X := X.set i (sg1 d e X[i]).2.2) nh nx hA hb q (i + 1) k (by omega) (by simp; exact hn) S' ah.2 nX' ah.1 ax' (by rw [E.chg.floor]; exact hf) fun U2 N2 X2 hX2 E2 S2 nU2 nX2 ah2 ax2 hn2 => ?_
      have e1 : (X.set i (sg1 d e X[i]).2.2).drop (i + 1) = X.drop (i + 1) := List.drop_set_of_lt (by omega)
      rw [e1] at hX2 S2
      have e2 : X.drop i = X[i] :: X.drop (i + 1) := List.drop_eq_getElem_cons hlt
      rw [e2] at hQ
      refine hQ U2 N2 X2 ?_ (E.trans E2) S2 nU2 nX2 ah2 ax2 hn2
      rw [hX2, List.take_succ_eq_append_getElem (by simp; exact hlt)]
      simp [sgsD, List.take_set_of_le]
    rw [Nat.zero_add]
    exact key

/-! ### Fields of a header -/
abbrev Cd := Dv × Nat × Hd
def nF (c : Cd) (v : Int) (s : Int → Hd) (n f : Int) : Cd := ((numD c.1 c.2.1 v n f).1, (numD c.1 c.2.1 v n f).2.1, s (numD c.1 c.2.1 v n f).2.2)
def fF (c : Cd) (v : Bool) (s : Bool → Hd) : Cd := ((flagD c.1 c.2.1 v).1, (flagD c.1 c.2.1 v).2.1, s (flagD c.1 c.2.1 v).2.2)
def dF' (c : Cd) (v : Int) (s : Int → Hd) : Cd := ((deltaD c.1 c.2.1 v).1, (deltaD c.1 c.2.1 v).2.1, s (deltaD c.1 c.2.1 v).2.2)
def gF (c : Cd) (v : Int) (s : Int → Hd) (z : Int) : Cd := ((logD c.1 c.2.1 v z).1, (logD c.1 c.2.1 v z).2.1, s (logD c.1 c.2.1 v z).2.2)
structure Hm (U : Nat → Prop) (M : Mem) (jc jd jh : Nat) (c : Cd) (k : Nat) : Prop where
  st : St U M jc jd c.1 c.2.1 k
  hd : M.nb[jh]? = some (.cells c.2.2.cs 41)
  nu : ¬ U jh
  n1 : jh ≠ jd
  n2 : jh ≠ jc
  fl : M.floor ≤ jh
abbrev Pj (jc jd jh : Nat) : Nat → Prop := fun i => i = jc ∨ i = jd ∨ i = jh
section
variable {U0 : Nat → Prop} {M0 : Mem} {c : Cd} {o : Nat} {Q : Mem → Prop}
theorem nK (E : Ext (Pj jc jd jh) U0 M0 U M) (H : Hm U M jc jd jh c (k + 1)) {v n f : Int} (hv : c.2.2.cs[o]? = some (.int .i64 v)) (hn : n ≤ 32) (hf : 0 ≤ f ∧ f ≤ 3) (s : Int → Hd) (hs : ∀ x, (s x).cs = c.2.2.cs.setIfInBounds o (.int .i64 x))
    (K : ∀ U' N c', c' = nF c v s n f → Ext (Pj jc jd jh) U0 M0 U' N → Hm U' N jc jd jh c' k → Q N) : Cn Try.prog 74 #[PtrB jc, .pointer (some ⟨2 * jh, o, none⟩), .int .i64 n, .int .i64 f] M fun _ N => Q N := by
  refine Cn.mono (c74 H.st H.hd H.fl H.n1 H.n2 H.nu hv hn hf) ?_
  rintro _ N ⟨_, U', E', S', a', nu'⟩
  refine K U' N _ rfl (E.trans E') ⟨S', ?_, nu', H.n1, H.n2, by rw [E'.chg.floor]; exact H.fl⟩
  rw [a']; exact congrArg (fun x => some (Blk.cells x 41)) (hs _).symm
theorem fK (E : Ext (Pj jc jd jh) U0 M0 U M) (H : Hm U M jc jd jh c (k + 1)) {v : Bool} (hv : c.2.2.cs[o]? = some (.bool v)) (s : Bool → Hd) (hs : ∀ x, (s x).cs = c.2.2.cs.setIfInBounds o (.bool x))
    (K : ∀ U' N c', c' = fF c v s → Ext (Pj jc jd jh) U0 M0 U' N → Hm U' N jc jd jh c' k → Q N) : Cn Try.prog 73 #[PtrB jc, .pointer (some ⟨2 * jh, o, none⟩)] M fun _ N => Q N := by
  refine Cn.mono (c73 H.st H.hd H.fl H.n1 H.n2 H.nu hv) ?_
  rintro _ N ⟨_, U', E', S', a', nu'⟩
  refine K U' N _ rfl (E.trans E') ⟨S', ?_, nu', H.n1, H.n2, by rw [E'.chg.floor]; exact H.fl⟩
  rw [a']; exact congrArg (fun x => some (Blk.cells x 41)) (hs _).symm
theorem dK (E : Ext (Pj jc jd jh) U0 M0 U M) (H : Hm U M jc jd jh c (k + 2)) {v : Int} (hv : c.2.2.cs[o]? = some (.int .i64 v)) (s : Int → Hd) (hs : ∀ x, (s x).cs = c.2.2.cs.setIfInBounds o (.int .i64 x))
    (K : ∀ U' N c', c' = dF' c v s → Ext (Pj jc jd jh) U0 M0 U' N → Hm U' N jc jd jh c' k → Q N) : Cn Try.prog 75 #[PtrB jc, .pointer (some ⟨2 * jh, o, none⟩)] M fun _ N => Q N := by
  refine Cn.mono (c75 H.st H.hd H.fl H.n1 H.n2 H.nu hv) ?_
  rintro _ N ⟨_, U', E', S', a', nu'⟩
  refine K U' N _ rfl (E.trans E') ⟨S', ?_, nu', H.n1, H.n2, by rw [E'.chg.floor]; exact H.fl⟩
  rw [a']; exact congrArg (fun x => some (Blk.cells x 41)) (hs _).symm
theorem gK (E : Ext (Pj jc jd jh) U0 M0 U M) (H : Hm U M jc jd jh c (k + 1)) {v z : Int} (hz : 16 ≤ z ∧ z ≤ 256) (hv : c.2.2.cs[o]? = some (.int .i64 v)) (s : Int → Hd) (hs : ∀ x, (s x).cs = c.2.2.cs.setIfInBounds o (.int .i64 x))
    (K : ∀ U' N c', c' = gF c v s z → Ext (Pj jc jd jh) U0 M0 U' N → Hm U' N jc jd jh c' k → Q N) : Cn Try.prog 76 #[PtrB jc, .pointer (some ⟨2 * jh, o, none⟩), .int .i64 z] M fun _ N => Q N := by
  refine Cn.mono (c76 hz H.st H.hd H.fl H.n1 H.n2 H.nu hv) ?_
  rintro _ N ⟨_, U', E', S', a', nu'⟩
  refine K U' N _ rfl (E.trans E') ⟨S', ?_, nu', H.n1, H.n2, by rw [E'.chg.floor]; exact H.fl⟩
  rw [a']; exact congrArg (fun x => some (Blk.cells x 41)) (hs _).symm
end
end
end Go.Zt


/- Layer 20: the program's coding of filters, whole. -/
set_option linter.unusedSimpArgs false
set_option linter.unusedVariables false
set_option maxRecDepth 100000
namespace Go.Zt
open Go Go.Sim Go.Proofs Go.RowKit

theorem sgsD_w : ∀ (X : List Sg) (l : List Nat) (e : Nat), (sgsD (.w l) e X).2.2 = X ∧ ∃ l', (sgsD (.w l) e X).1 = .w l'
  | [], l, e => ⟨rfl, l, rfl⟩
  | x :: X, l, e => by
    have nv : ∀ {l : List Nat} {e : Nat} {v n f : Int}, (numD (.w l) e v n f).2.2 = v := by
      intro l e v n f; unfold numD; split <;> rfl
    have s1 : (sg1 (.w l) e x).2.2 = x ∧ ∃ l', (sg1 (.w l) e x).1 = .w l' := by
      unfold sg1
      obtain ⟨l1, h1⟩ := (numD_kind (d := .w l) (e := e) (v := x.a) (n := 4) (f := 0)).1 _ rfl
      simp only [h1]
      obtain ⟨l2, h2⟩ := (numD_kind (d := .w l1) (e := (numD (.w l) e x.a 4 0).2.1) (v := x.b) (n := 2) (f := 0)).1 _ rfl
      simp only [h2]
      obtain ⟨l3, h3⟩ := (numD_kind (d := .w l2) (e := (numD (.w l1) (numD (.w l) e x.a 4 0).2.1 x.b 2 0).2.1) (v := x.c) (n := 4) (f := 0)).1 _ rfl
      simp only [h3, nv, true_and]
      exact numD_kind.1 _ rfl
    obtain ⟨g1, l1, g2⟩ := s1
    obtain ⟨q1, q2⟩ := sgsD_w X l1 (sg1 (.w l) e x).2.1
    simp only [sgsD, g2, g1, q1, true_and]
    exact q2
theorem numD_val {b : List Nat} {p e : Nat} {v n f : Int} (h0 : 0 ≤ n) (h : (numD (.r b p) e v n f).2.1 = 0) : ∃ x : Nat, x < 2 ^ n.toNat ∧ (numD (.r b p) e v n f).2.2 = (x : Int) + f := by
  by_cases he : e ≠ 0
  · unfold numD at h; rw [if_pos he] at h; exact absurd h he
  · obtain rfl : e = 0 := by omega
    have h1 : (rFixed b p n).2.1 = 0 := h
    refine ⟨(rFixed b p n).1, ?_, ?_⟩
    · have hp := Nat.two_pow_pos n.toNat
      unfold rFixed
      split
      · exact hp
      · split
        · exact hp
        · exact numb_lt (bitOf_lt b) p n.toNat
    · show (if (rFixed b p n).2.1 = 0 then _ else _) = _
      rw [if_pos h1]
theorem mk38_0 {M : Mem} : makeP Try.prog 38 (.int .i64 (1 * 2 ^ 0)) (.int .i64 (1 * 2 ^ 0)) M = some (.slice (some ⟨2 * M.nb.size, 0, none⟩) (2 ^ 0) (2 ^ 0), M.new (.cells (Sgs (List.replicate (2 ^ 0) ⟨0, 0, 0, 0⟩)).toArray 96)) := by kernel_rfl
theorem mk38_1 {M : Mem} : makeP Try.prog 38 (.int .i64 (1 * 2 ^ 1)) (.int .i64 (1 * 2 ^ 1)) M = some (.slice (some ⟨2 * M.nb.size, 0, none⟩) (2 ^ 1) (2 ^ 1), M.new (.cells (Sgs (List.replicate (2 ^ 1) ⟨0, 0, 0, 0⟩)).toArray 96)) := by kernel_rfl
theorem mk38_2 {M : Mem} : makeP Try.prog 38 (.int .i64 (1 * 2 ^ 2)) (.int .i64 (1 * 2 ^ 2)) M = some (.slice (some ⟨2 * M.nb.size, 0, none⟩) (2 ^ 2) (2 ^ 2), M.new (.cells (Sgs (List.replicate (2 ^ 2) ⟨0, 0, 0, 0⟩)).toArray 96)) := by kernel_rfl
theorem mk38_3 {M : Mem} : makeP Try.prog 38 (.int .i64 (1 * 2 ^ 3)) (.int .i64 (1 * 2 ^ 3)) M = some (.slice (some ⟨2 * M.nb.size, 0, none⟩) (2 ^ 3) (2 ^ 3), M.new (.cells (Sgs (List.replicate (2 ^ 3) ⟨0, 0, 0, 0⟩)).toArray 96)) := by kernel_rfl
theorem mk38 {M : Mem} (q : Nat) (hq : q ≤ 3) : makeP Try.prog 38 (.int .i64 (1 * 2 ^ q)) (.int .i64 (1 * 2 ^ q)) M = some (.slice (some ⟨2 * M.nb.size, 0, none⟩) (2 ^ q) (2 ^ q), M.new (.cells (Sgs (List.replicate (2 ^ q) ⟨0, 0, 0, 0⟩)).toArray 96)) := by
  have : q = 0 ∨ q = 1 ∨ q = 2 ∨ q = 3 := by omega
  rcases this with rfl | rfl | rfl | rfl
  · exact mk38_0
  · exact mk38_1
  · exact mk38_2
  · exact mk38_3
/-- The strengths' part of a header. -/
def StrT (c0 : Cd) (X0 : List Sg) (c : Cd) (X : List Sg) : Prop :=
  ∃ c1, c1 = nF c0 c0.2.2.da (fun x => { c0.2.2 with da := x }) 2 3 ∧ ∃ c2, c2 = nF c1 c1.2.2.cb (fun x => { c1.2.2 with cb := x }) 2 0 ∧
  ∃ c3 X3, (match c2.1 with
    | .w _ => c3 = c2 ∧ X3 = X0
    | .r _ _ => if c2.2.1 = 0 then (∃ A m, c3 = (c2.1, c2.2.1, { c2.2.2 with A := A, n := 2 ^ c2.2.2.cb.toNat, c := m })) ∧ X3 = List.replicate (2 ^ c2.2.2.cb.toNat) ⟨0, 0, 0, 0⟩ else c3 = c2 ∧ X3 = X0) ∧
  c = ((sgsD c3.1 c3.2.1 X3).1, (sgsD c3.1 c3.2.1 X3).2.1, c3.2.2) ∧ X = (sgsD c3.1 c3.2.1 X3).2.2
/-- The filters' part of a header. -/
def FiltT (c0 : Cd) (X0 : List Sg) (c : Cd) (X : List Sg) : Prop :=
  ∃ c1, c1 = nF c0 c0.2.2.l0 (fun x => { c0.2.2 with l0 := x }) 6 0 ∧ ∃ c2, c2 = nF c1 c1.2.2.l1 (fun x => { c1.2.2 with l1 := x }) 6 0 ∧
  ∃ c3, c3 = nF c2 c2.2.2.l2 (fun x => { c2.2.2 with l2 := x }) 6 0 ∧ ∃ c4, c4 = nF c3 c3.2.2.l3 (fun x => { c3.2.2 with l3 := x }) 6 0 ∧
  ∃ c5, c5 = nF c4 c4.2.2.sp (fun x => { c4.2.2 with sp := x }) 3 0 ∧ ∃ c6, c6 = fF c5 c5.2.2.cd (fun x => { c5.2.2 with cd := x }) ∧
  ∃ c7, (if c6.2.2.cd = true ∧ c6.2.1 = 0 then StrT c6 X0 c7 X else c7 = c6 ∧ X = X0) ∧
  ∃ c8, c8 = fF c7 c7.2.2.x0 (fun x => { c7.2.2 with x0 := x }) ∧ ∃ c9, c9 = fF c8 c8.2.2.x1 (fun x => { c8.2.2 with x1 := x }) ∧ c = fF c9 c9.2.2.x2 (fun x => { c9.2.2 with x2 := x })
section
variable {U : Nat → Prop} {M N : Mem} {jc jd jh k : Nat} {c : Cd} {X : List Sg}
theorem dkind {d : Dv} : (∃ l, d = .w l) ∨ ∃ b p, d = .r b p := by cases d <;> simp
/-- What stands beside a header: its strengths. -/
structure Xm (U : Nat → Prop) (M : Mem) (jc jd jh : Nat) (c : Cd) (X : List Sg) : Prop where
  n : c.2.2.n = X.length
  row : Row M c.2.2.A (Sgs X)
  far : Far U jc jd jh M c.2.2.A
theorem Xm.ext {U' : Nat → Prop} {c' : Cd} (h : Xm U M jc jd jh c X) (E : Ext (Pj jc jd jh) U M U' N) (e1 : c'.2.2.n = c.2.2.n) (e2 : c'.2.2.A = c.2.2.A) : Xm U' N jc jd jh c' X :=
  ⟨by rw [e1]; exact h.n, by rw [e2]; exact h.far.row h.row E fun _ h => h, by rw [e2]; exact h.far.ext E fun _ h => h⟩
theorem e78_4 {Q : Value → Mem → Prop} (H : Hm U M jc jd jh c (k + 3))
    (K : ∀ U' N c8 c9 c', c8 = fF c c.2.2.x0 (fun x => { c.2.2 with x0 := x }) → c9 = fF c8 c8.2.2.x1 (fun x => { c8.2.2 with x1 := x }) → c' = fF c9 c9.2.2.x2 (fun x => { c9.2.2 with x2 := x }) → Ext (Pj jc jd jh) U M U' N → Hm U' N jc jd jh c' k → Q (.tuple #[]) N) :
    A78_4 (some ⟨2 * jc, 0, none⟩) (some ⟨2 * jh, 0, none⟩) 0 M Q := by
  refine w78_4 (cT (by decide) (ad rfl (ix (x := ⟨2 * jh, 27, none⟩) (by kernel_rfl) (fK .refl H rfl (fun x => { c.2.2 with x0 := x }) (fun _ => rfl) fun U1 N1 c8 h8 E1 H1 => ?_))))
  refine w78_4 (cT (by decide) (ad rfl (ix (x := ⟨2 * jh, 28, none⟩) (by kernel_rfl) (fK E1 H1 rfl (fun x => { c8.2.2 with x1 := x }) (fun _ => rfl) fun U2 N2 c9 h9 E2 H2 => ?_))))
  refine w78_4 (cT (by decide) (ad rfl (ix (x := ⟨2 * jh, 29, none⟩) (by kernel_rfl) (fK E2 H2 rfl (fun x => { c9.2.2 with x2 := x }) (fun _ => rfl) fun U3 N3 c' h' E3 H3 => ?_))))
  exact w78_4 (cF (by decide) (K U3 N3 c8 c9 c' h8 h9 h' E3 H3))
set_option maxHeartbeats 1000000 in
theorem c78 (H : Hm U M jc jd jh c (k + 50)) (hX : Xm U M jc jd jh c X) (hb : X.length ≤ 8) (hr : ∀ b p, c.1 = .r b p → X = []) :
    Cn Try.prog 78 #[PtrB jc, PtrB jh] M fun u N => u = .tuple #[] ∧ ∃ U' c' X', FiltT c X c' X' ∧ Ext (Pj jc jd jh) U M U' N ∧ Hm U' N jc jd jh c' k ∧ Xm U' N jc jd jh c' X' ∧ ∀ a, c'.2.2.A = some a → c.2.2.A = some a ∨ M.nb.size ≤ a.block / 2 := by
  have hjd := H.st.dev.lt
  have hjc := lt_of_at H.st.cod
  have hjh := lt_of_at H.hd
  refine w78_0 ?_
  refine w78_1 (cT (by decide) (ad rfl (ix (x := ⟨2 * jh, 18, none⟩) (by kernel_rfl) (nK .refl H rfl (by decide) (by decide) (fun x => { c.2.2 with l0 := x }) (fun _ => rfl) fun U1 N1 c1 h1 E1 H1 => ?_))))
  refine w78_1 (cT (by decide) (ad rfl (ix (x := ⟨2 * jh, 19, none⟩) (by kernel_rfl) (nK E1 H1 rfl (by decide) (by decide) (fun x => { c1.2.2 with l1 := x }) (fun _ => rfl) fun U2 N2 c2 h2 E2 H2 => ?_))))
  refine w78_1 (cT (by decide) (ad rfl (ix (x := ⟨2 * jh, 20, none⟩) (by kernel_rfl) (nK E2 H2 rfl (by decide) (by decide) (fun x => { c2.2.2 with l2 := x }) (fun _ => rfl) fun U3 N3 c3 h3 E3 H3 => ?_))))
  refine w78_1 (cT (by decide) (ad rfl (ix (x := ⟨2 * jh, 21, none⟩) (by kernel_rfl) (nK E3 H3 rfl (by decide) (by decide) (fun x => { c3.2.2 with l3 := x }) (fun _ => rfl) fun U4 N4 c4 h4 E4 H4 => ?_))))
  refine w78_1 (cF (by decide) (ad rfl (nK E4 H4 rfl (by decide) (by decide) (fun x => { c4.2.2 with sp := x }) (fun _ => rfl) fun U5 N5 c5 h5 E5 H5 => ad rfl (fK E5 H5 rfl (fun x => { c5.2.2 with cd := x }) (fun _ => rfl) fun U6 N6 c6 h6 E6 H6 => ad rfl (on (bool_of H6.hd rfl) ?_)))))
  have g1 : c1.2.2.n = c.2.2.n ∧ c1.2.2.A = c.2.2.A := by rw [h1]; exact ⟨rfl, rfl⟩
  have g2 : c2.2.2.n = c1.2.2.n ∧ c2.2.2.A = c1.2.2.A := by rw [h2]; exact ⟨rfl, rfl⟩
  have g3 : c3.2.2.n = c2.2.2.n ∧ c3.2.2.A = c2.2.2.A := by rw [h3]; exact ⟨rfl, rfl⟩
  have g4 : c4.2.2.n = c3.2.2.n ∧ c4.2.2.A = c3.2.2.A := by rw [h4]; exact ⟨rfl, rfl⟩
  have g5 : c5.2.2.n = c4.2.2.n ∧ c5.2.2.A = c4.2.2.A := by rw [h5]; exact ⟨rfl, rfl⟩
  have g6 : c6.2.2.n = c5.2.2.n ∧ c6.2.2.A = c5.2.2.A := by rw [h6]; exact ⟨rfl, rfl⟩
  have n6 : c6.2.2.n = c.2.2.n := by rw [g6.1, g5.1, g4.1, g3.1, g2.1, g1.1]
  have A6 : c6.2.2.A = c.2.2.A := by rw [g6.2, g5.2, g4.2, g3.2, g2.2, g1.2]
  clear g1 g2 g3 g4 g5 g6
  have X6 := hX.ext E6 n6 A6
  have r6 : ∀ b p, c6.1 = .r b p → X = [] := by
    intro b p hc
    rcases dkind (d := c.1) with ⟨l, hl⟩ | ⟨b0, p0, hl⟩
    · exfalso
      obtain ⟨l1, k1⟩ := (numD_kind (e := c.2.1) (v := c.2.2.l0) (n := 6) (f := 0)).1 _ hl
      have g1 : c1.1 = .w l1 := by rw [h1]; exact k1
      obtain ⟨l2, k2⟩ := (numD_kind (e := c1.2.1) (v := c1.2.2.l1) (n := 6) (f := 0)).1 _ g1
      have g2 : c2.1 = .w l2 := by rw [h2]; exact k2
      obtain ⟨l3, k3⟩ := (numD_kind (e := c2.2.1) (v := c2.2.2.l2) (n := 6) (f := 0)).1 _ g2
      have g3 : c3.1 = .w l3 := by rw [h3]; exact k3
      obtain ⟨l4, k4⟩ := (numD_kind (e := c3.2.1) (v := c3.2.2.l3) (n := 6) (f := 0)).1 _ g3
      have g4 : c4.1 = .w l4 := by rw [h4]; exact k4
      obtain ⟨l5, k5⟩ := (numD_kind (e := c4.2.1) (v := c4.2.2.sp) (n := 3) (f := 0)).1 _ g4
      have g5 : c5.1 = .w l5 := by rw [h5]; exact k5
      obtain ⟨l6, k6⟩ := (numD_kind (e := c5.2.1) (v := if c5.2.2.cd then 1 else 0) (n := 1) (f := 0)).1 _ g5
      have g6 : c6.1 = .w l6 := by rw [h6]; exact k6
      rw [g6] at hc; cases hc
    · exact hr _ _ hl
  -- the end of every road
  have fin : ∀ {U7 : Nat → Prop} {M7 : Mem} {c7 : Cd} {X7 : List Sg}, (if c6.2.2.cd = true ∧ c6.2.1 = 0 then StrT c6 X c7 X7 else c7 = c6 ∧ X7 = X) → Ext (Pj jc jd jh) U M U7 M7 → Hm U7 M7 jc jd jh c7 (k + 3) → Xm U7 M7 jc jd jh c7 X7 → (∀ a, c7.2.2.A = some a → c.2.2.A = some a ∨ M.nb.size ≤ a.block / 2) →
      A78_4 (some ⟨2 * jc, 0, none⟩) (some ⟨2 * jh, 0, none⟩) 0 M7 fun u N => u = .tuple #[] ∧ ∃ U' c' X', FiltT c X c' X' ∧ Ext (Pj jc jd jh) U M U' N ∧ Hm U' N jc jd jh c' k ∧ Xm U' N jc jd jh c' X' ∧ ∀ a, c'.2.2.A = some a → c.2.2.A = some a ∨ M.nb.size ≤ a.block / 2 := by
    intro U7 M7 c7 X7 hT E7 H7 hX7 hA
    refine e78_4 H7 fun U' N c8 c9 c' h8 h9 h' E' H' => ⟨rfl, U', c', X7, ⟨c1, h1, c2, h2, c3, h3, c4, h4, c5, h5, c6, h6, c7, hT, c8, h8, c9, h9, h'⟩, E7.trans E', H', hX7.ext E' ?_ ?_, ?_⟩
    · have q8 : c8.2.2.n = c7.2.2.n := by rw [h8]; rfl
      have q9 : c9.2.2.n = c8.2.2.n := by rw [h9]; rfl
      have q : c'.2.2.n = c9.2.2.n := by rw [h']; rfl
      rw [q, q9, q8]
    · have q8 : c8.2.2.A = c7.2.2.A := by rw [h8]; rfl
      have q9 : c9.2.2.A = c8.2.2.A := by rw [h9]; rfl
      have q : c'.2.2.A = c9.2.2.A := by rw [h']; rfl
      rw [q, q9, q8]
    · have q8 : c8.2.2.A = c7.2.2.A := by rw [h8]; rfl
      have q9 : c9.2.2.A = c8.2.2.A := by rw [h9]; rfl
      have q : c'.2.2.A = c9.2.2.A := by rw [h']; rfl
      rw [q, q9, q8]; exact hA
  have no : ¬ (c6.2.2.cd = true ∧ c6.2.1 = 0) → A78_2 (some ⟨2 * jc, 0, none⟩) (some ⟨2 * jh, 0, none⟩) false N6 fun u N => u = .tuple #[] ∧ ∃ U' c' X', FiltT c X c' X' ∧ Ext (Pj jc jd jh) U M U' N ∧ Hm U' N jc jd jh c' k ∧ Xm U' N jc jd jh c' X' ∧ ∀ a, c'.2.2.A = some a → c.2.2.A = some a ∨ M.nb.size ≤ a.block / 2 := fun hh =>
    w78_2 (cF rfl (fin (by rw [if_neg hh]; exact ⟨rfl, rfl⟩) E6 ⟨H6.st.mono (by omega), H6.hd, H6.nu, H6.n1, H6.n2, H6.fl⟩ X6 fun a ha => .inl (A6 ▸ ha)))
  refine cn (fun hcd => ad rfl (on (int_of H6.st.cod rfl) ?_)) fun hcd => no fun hh => by rw [hcd] at hh; cases hh.1
  by_cases he : ¬ c6.2.1 = 0
  · rw [show (((c6.2.1 : Nat) : Int) == 0) = false by simpa using he]
    exact no fun hh => he hh.2
  have he : c6.2.1 = 0 := by omega
  rw [show (((c6.2.1 : Nat) : Int) == 0) = true by rw [he]; rfl]
  have hT : ∀ {c7 : Cd} {X7 : List Sg}, StrT c6 X c7 X7 → (if c6.2.2.cd = true ∧ c6.2.1 = 0 then StrT c6 X c7 X7 else c7 = c6 ∧ X7 = X) := fun h => by rw [if_pos ⟨hcd, he⟩]; exact h
  refine w78_2 (cT rfl (ad rfl (nK E6 H6 rfl (by decide) (by decide) (fun x => { c6.2.2 with da := x }) (fun _ => rfl) fun Ua Na ca ha Ea Ha => ad rfl (nK Ea Ha rfl (by decide) (by decide) (fun x => { ca.2.2 with cb := x }) (fun _ => rfl) fun Ub Nb cb hcb Eb Hb => ?_))))
  have ga : ca.2.2.n = c6.2.2.n ∧ ca.2.2.A = c6.2.2.A := by rw [ha]; exact ⟨rfl, rfl⟩
  have gb : cb.2.2.n = ca.2.2.n ∧ cb.2.2.A = ca.2.2.A := by rw [hcb]; exact ⟨rfl, rfl⟩
  have nb6 : cb.2.2.n = c6.2.2.n := gb.1.trans ga.1
  have Ab6 : cb.2.2.A = c6.2.2.A := gb.2.trans ga.2
  have Xb : Xm Ub Nb jc jd jh cb X := hX.ext Eb (nb6.trans n6) (Ab6.trans A6)
  have hn8 : cb.2.2.n ≤ 8 := by rw [Xb.n]; exact hb
  have nh : jh ≠ jc ∧ jh ≠ jd := ⟨Hb.n2, Hb.n1⟩
  rcases dkind (d := cb.1) with ⟨l, hd⟩ | ⟨b, p, hd⟩
  · -- a writer
    have S := Hb.st
    rw [hd] at S
    refine ad rfl (on (ptr_of S.cod rfl) (cF rfl (w78_3 (cF rfl (ad rfl (on (sl_of Hb.hd rfl) ?_))))))
    refine e78_5w (X := X) (l := l) nh (by omega) Xb.n cb.2.2.n 0 (k + 3) (by omega) (S.mono (by omega)) Hb.nu Hb.hd Xb.row Xb.far fun U' N l' hl' ⟨E', S', nU', a', hn', R', F'⟩ => ?_
    obtain ⟨q1, _⟩ := sgsD_w X l cb.2.1
    simp only [List.drop_zero] at hl' S'
    refine fin (c7 := (.w l', (sgsD (.w l) cb.2.1 X).2.1, cb.2.2)) (X7 := X) (hT ⟨ca, ha, cb, hcb, cb, X, ?_, ?_, ?_⟩) (Eb.trans E') ⟨S', a', nU', Hb.n1, Hb.n2, by rw [E'.chg.floor]; exact Hb.fl⟩ ⟨hn', R', F'⟩ fun a haa => .inl (by rw [← A6, ← Ab6]; exact haa)
    · rw [hd]; exact ⟨rfl, rfl⟩
    · rw [hd, ← hl']
    · rw [hd, q1]
  · -- a reader
    have hX0 : X = [] := by
      refine r6 b ?_ ?_
      · exact (match c6.1 with | .r _ p => p | _ => 0)
      · rcases dkind (d := c6.1) with ⟨l, hl⟩ | ⟨b0, p0, hl⟩
        · exfalso
          obtain ⟨l1, k1⟩ := (numD_kind (e := c6.2.1) (v := c6.2.2.da) (n := 2) (f := 3)).1 _ hl
          have g1 : ca.1 = .w l1 := by rw [ha]; exact k1
          obtain ⟨l2, k2⟩ := (numD_kind (e := ca.2.1) (v := ca.2.2.cb) (n := 2) (f := 0)).1 _ g1
          have g2 : cb.1 = .w l2 := by rw [hcb]; exact k2
          rw [g2] at hd; cases hd
        · obtain ⟨p1, k1⟩ := (numD_kind (e := c6.2.1) (v := c6.2.2.da) (n := 2) (f := 3)).2 _ _ hl
          have g1 : ca.1 = .r b0 p1 := by rw [ha]; exact k1
          obtain ⟨p2, k2⟩ := (numD_kind (e := ca.2.1) (v := ca.2.2.cb) (n := 2) (f := 0)).2 _ _ g1
          have g2 : cb.1 = .r b0 p2 := by rw [hcb]; exact k2
          rw [g2] at hd; cases hd
          rw [hl]
    have S := Hb.st
    rw [hd] at S
    refine ad rfl (on (ptr_of S.cod rfl) (cT rfl (ad rfl (on (int_of S.cod rfl) ?_))))
    by_cases h0 : ¬ cb.2.1 = 0
    · rw [show (((cb.2.1 : Nat) : Int) == 0) = false by simpa using h0]
      have hn0 : cb.2.2.n = 0 := by rw [Xb.n, hX0]; rfl
      refine w78_3 (cF rfl (ad rfl (on (sl_of Hb.hd rfl) (w78_5 (cF (decide_eq_false (by show ¬ (0 : Int) < (cb.2.2.n : Int); omega)) ?_)))))
      subst hX0
      refine fin (c7 := cb) (X7 := []) (hT ⟨ca, ha, cb, hcb, cb, [], ?_, ?_, rfl⟩) Eb ⟨Hb.st.mono (by omega), Hb.hd, Hb.nu, Hb.n1, Hb.n2, Hb.fl⟩ Xb fun a haa => .inl (by rw [← A6, ← Ab6]; exact haa)
      · rw [hd]; simp only [if_neg h0]; exact ⟨trivial, trivial⟩
      · simp only [sgsD]
    have h0 : cb.2.1 = 0 := by omega
    rw [show (((cb.2.1 : Nat) : Int) == 0) = true by rw [h0]; rfl]
    -- how many there are
    have hq : 0 ≤ cb.2.2.cb ∧ cb.2.2.cb ≤ 3 := by
      rcases dkind (d := ca.1) with ⟨l, hl⟩ | ⟨b0, p0, hl⟩
      · exfalso
        obtain ⟨l2, k2⟩ := (numD_kind (e := ca.2.1) (v := ca.2.2.cb) (n := 2) (f := 0)).1 _ hl
        have g2 : cb.1 = .w l2 := by rw [hcb]; exact k2
        rw [g2] at hd; cases hd
      · have : (numD ca.1 ca.2.1 ca.2.2.cb 2 0).2.1 = 0 := by rw [hcb] at h0; exact h0
        rw [hl] at this
        obtain ⟨x, x1, x2⟩ := numD_val (by decide) this
        have e : cb.2.2.cb = (numD ca.1 ca.2.1 ca.2.2.cb 2 0).2.2 := by rw [hcb]; rfl
        rw [e, hl, x2]
        have : x < 4 := x1
        omega
    obtain ⟨p1, p2⟩ := pow2 hq
    have q3 : cb.2.2.cb.toNat ≤ 3 := by omega
    refine w78_3 (cT rfl (ad rfl (on (int_of Hb.hd rfl) (pu (shl_i64 (q := cb.2.2.cb.toNat) (by omega) (by omega) (by omega)) (ty rfl (me (mk38 cb.2.2.cb.toNat q3) (ty rfl (ad rfl ?_))))))))
    have ax := Mem.new_at Nb (.cells (Sgs (List.replicate (2 ^ cb.2.2.cb.toNat) ⟨0, 0, 0, 0⟩)).toArray 96)
    have Kx : Keep Nb (Nb.new (.cells (Sgs (List.replicate (2 ^ cb.2.2.cb.toNat) ⟨0, 0, 0, 0⟩)).toArray 96)) := .new _ _
    dsimp only
    generalize Nb.new (.cells (Sgs (List.replicate (2 ^ cb.2.2.cb.toNat) ⟨0, 0, 0, 0⟩)).toArray 96) = Nx at ax Kx ⊢
    have lb1 := lt_of_at Hb.hd
    have lb2 := lt_of_at Hb.st.cod
    have lb3 := Hb.st.dev.lt
    obtain ⟨Ny, py, Cy, sy, ay⟩ := put1 26 (.slice (some ⟨2 * Nb.nb.size, 0, none⟩) (2 ^ cb.2.2.cb.toNat) (2 ^ cb.2.2.cb.toNat)) (at_keep Hb.hd Kx) (by rw [Kx.floor]; exact Hb.fl) (show 26 < 30 by decide) rfl
    have axy := at_chg ax Cy (by omega)
    have Sy : St Ub Ny jc jd cb.1 cb.2.1 (k + 42) := ((Hb.st.keep Kx).chg Cy fun i _ hu hh => by
      subst hh
      rcases hu with hu | hu | hu
      · exact Hb.nu hu
      · exact Hb.n1 hu
      · exact Hb.n2 hu).mono (by omega)
    have h8 : 2 ^ cb.2.2.cb.toNat ≤ 8 := Nat.pow_le_pow_right (n := 2) (by decide) q3
    generalize hcy : ({ cb.2.2 with A := some ⟨2 * Nb.nb.size, 0, none⟩, n := 2 ^ cb.2.2.cb.toNat, c := 2 ^ cb.2.2.cb.toNat } : Hd) = hy at *
    have ay' : Ny.nb[jh]? = some (.cells hy.cs 41) := by rw [ay, ← hcy]; rfl
    have hyA : hy.A = some ⟨2 * Nb.nb.size, 0, none⟩ := by rw [← hcy]
    have hyn : hy.n = 2 ^ cb.2.2.cb.toNat := by rw [← hcy]
    have nUx : ¬ Ub Nb.nb.size := fun hu => by have := Hb.st.ub _ hu; omega
    refine pt py (ad rfl (on (sl_of ay' rfl) ?_))
    refine e78_5r (jx := Nb.nb.size) (X := List.replicate (2 ^ cb.2.2.cb.toNat) ⟨0, 0, 0, 0⟩) nh ⟨by omega, by omega, by omega⟩ hyA (by omega) hy.n 0 (k + 3) (by omega) (by rw [hyn]; simp) (Sy.mono (by omega)) Hb.nu nUx ay' axy (by rw [Cy.floor, Kx.floor]; exact Hb.st.fs) fun U' N X' hX' E' S' nU' nX' a' ax' hn' => ?_
    simp only [List.take_zero, List.nil_append, List.drop_zero] at hX' S'
    have Ex : Ext (Pj jc jd jh) U M U' N := by
      have E2 : Ext (Pj jc jd jh) Ub Nb U' N := by
        have z1 := Kx.size
        have z2 := Cy.size
        refine ⟨fun i hi => (E'.sub i hi).imp id fun q => by omega, ⟨(E'.chg.base.trans Cy.base).trans Kx.base, (E'.chg.floor.trans Cy.floor).trans Kx.floor, Nat.le_trans z1 (Nat.le_trans z2 E'.chg.size), fun j hj hs => ?_⟩⟩
        refine ((E'.chg.same j (by omega) fun hh => ?_).trans (Cy.same j (by omega) fun hh => hs (.inr (.inr (.inr hh))))).trans (Kx.same j hj fun x => x)
        rcases hh with hh | hh | hh | hh
        · exact hs (.inl hh)
        · exact hs (.inr (.inl hh))
        · exact hs (.inr (.inr (.inl hh)))
        · omega
      exact Eb.trans E2
    refine fin (c7 := ((sgsD cb.1 cb.2.1 (List.replicate (2 ^ cb.2.2.cb.toNat) ⟨0, 0, 0, 0⟩)).1, (sgsD cb.1 cb.2.1 (List.replicate (2 ^ cb.2.2.cb.toNat) ⟨0, 0, 0, 0⟩)).2.1, hy)) (X7 := X') (hT ⟨ca, ha, cb, hcb, (cb.1, cb.2.1, hy), List.replicate (2 ^ cb.2.2.cb.toNat) ⟨0, 0, 0, 0⟩, ?_, rfl, hX'⟩) Ex ⟨S', a', nU', Hb.n1, Hb.n2, by rw [Ex.chg.floor]; exact H.fl⟩ ⟨hn', ?_, ?_⟩ ?_
    · rw [hd]; simp only [if_pos h0]; exact ⟨⟨some ⟨2 * Nb.nb.size, 0, none⟩, 2 ^ cb.2.2.cb.toNat, by rw [← hcy, ← hd]⟩, trivial⟩
    · show Row N hy.A (Sgs X')
      rw [hyA]
      intro i hi
      refine ⟨_, rfl, ?_⟩
      rw [cell_of ax', Nat.zero_add]; simp [hi]
    · show Far U' jc jd jh N hy.A
      rw [hyA]
      intro a haa
      obtain rfl := Option.some.inj haa
      have := lt_of_at ax'
      refine .inr ⟨by show 2 * Nb.nb.size / 2 < _; omega, ?_, ?_, ?_, ?_⟩ <;> show _ <;> (try (rw [show 2 * Nb.nb.size / 2 = Nb.nb.size by omega])) <;> first | exact nX' | omega
    · intro a haa
      have : a = ⟨2 * Nb.nb.size, 0, none⟩ := by
        have h2 : hy.A = some a := haa
        rw [hyA] at h2; exact (Option.some.inj h2).symm
      subst this
      refine .inr ?_
      show M.nb.size ≤ 2 * Nb.nb.size / 2
      have := Eb.chg.size; omega
end
end Go.Zt


/- Layer 20: the program's coding of a header. -/
set_option linter.unusedSimpArgs false
set_option linter.unusedVariables false
set_option maxRecDepth 100000
namespace Go.Zt
open Go Go.Sim Go.Proofs Go.RowKit

theorem Ext.step {P P' U U1 U2 : Nat → Prop} {M N1 N1' N2 : Mem} (h : Ext P U M U1 N1) (K : Keep N1 N1') (k : Ext P' U1 N1' U2 N2) (hP : ∀ i, P' i → P i ∨ M.nb.size ≤ i) : Ext P U M U2 N2 := by
  have z1 := h.chg.size
  have z2 := K.size
  refine ⟨fun i hi => (k.sub i hi).elim (h.sub i) fun q => .inr (by omega), ⟨(k.chg.base.trans K.base).trans h.chg.base, (k.chg.floor.trans K.floor).trans h.chg.floor, by have := k.chg.size; omega, fun j hj hs => ?_⟩⟩
  refine ((k.chg.same j (by omega) fun hh => ?_).trans (K.same j (by omega) fun x => x)).trans (h.chg.same j hj hs)
  rcases hh with hh | hh
  · rcases h.sub j hh with q | q
    · exact hs (.inl q)
    · omega
  · rcases hP j hh with q | q
    · exact hs (.inr q)
    · omega
theorem LvP.mono {P : Program} [Orc P] {fn : Func} {L : Tm} {stk : List It} {M : Mem} {Q Q' : Value → Mem → Prop} (h : LvP P fn L stk M Q) (hQ : ∀ v M, Q v M → Q' v M) : LvP P fn L stk M Q' := fun T hs hL => by
  have g := h T hs hL
  unfold RunI at g ⊢
  split at g <;> exact Reach.mono g hQ
def Dv.isW : Dv → Bool
  | .w _ => true
  | .r _ _ => false
theorem numD_isW (d : Dv) (e : Nat) (v n f : Int) : (numD d e v n f).1.isW = d.isW := by
  unfold numD; split
  · rfl
  · cases d <;> rfl
theorem flagD_isW (d : Dv) (e : Nat) (v : Bool) : (flagD d e v).1.isW = d.isW := numD_isW ..
theorem deltaD_isW (d : Dv) (e : Nat) (v : Int) : (deltaD d e v).1.isW = d.isW := by
  rw [← flagD_isW d e (v != 0)]
  unfold deltaD; split
  · rfl
  · cases (flagD d e (v != 0)).1 <;> rfl
theorem logD_isW (d : Dv) (e : Nat) (v s : Int) : (logD d e v s).1.isW = d.isW := by
  rw [← numD_isW d e v 2 0]
  unfold logD; split <;> rfl
theorem isW_r {d : Dv} (h : d.isW = false) : ∃ b p, d = .r b p := by
  cases d with
  | w l => cases h
  | r b p => exact ⟨b, p, rfl⟩
/-- From the deltas on. -/
def TailT (w e : Int) (c0 : Cd) (X0 : List Sg) (c : Cd) (X : List Sg) : Prop :=
  ∃ c1, c1 = dF' c0 c0.2.2.d0 (fun x => { c0.2.2 with d0 := x }) ∧ ∃ c2, c2 = dF' c1 c1.2.2.d1 (fun x => { c1.2.2 with d1 := x }) ∧ ∃ c3, c3 = dF' c2 c2.2.2.d2 (fun x => { c2.2.2 with d2 := x }) ∧
  ∃ c4, c4 = dF' c3 c3.2.2.d3 (fun x => { c3.2.2 with d3 := x }) ∧ ∃ c5, c5 = dF' c4 c4.2.2.d4 (fun x => { c4.2.2 with d4 := x }) ∧
  ∃ c6, c6 = gF c5 c5.2.2.co (fun x => { c5.2.2 with co := x }) w ∧ ∃ c7, c7 = gF c6 c6.2.2.ro (fun x => { c6.2.2 with ro := x }) e ∧ ∃ c8, c8 = fF c7 c7.2.2.na (fun x => { c7.2.2 with na := x }) ∧
  if c8.2.2.less = true then c = c8 ∧ X = X0 else FiltT c8 X0 c X
/-- The frames that a header refers to, and its primary one. -/
def RefT (c0 c : Cd) : Prop :=
  ∃ c1 t, (if c0.2.2.ke = true then c1 = c0 ∧ t = false else
    ∃ c2, c2 = nF c0 c0.2.2.r0 (fun x => { c0.2.2 with r0 := x }) 3 0 ∧ ∃ c3, c3 = nF c2 c2.2.2.r1 (fun x => { c2.2.2 with r1 := x }) 3 0 ∧ ∃ c4, c4 = nF c3 c3.2.2.r2 (fun x => { c3.2.2 with r2 := x }) 3 0 ∧
    c1 = ((flagD c4.1 c4.2.1 (decide (c0.2.2.pr ≥ 0))).1, (flagD c4.1 c4.2.1 (decide (c0.2.2.pr ≥ 0))).2.1, c4.2.2) ∧ t = (flagD c4.1 c4.2.1 (decide (c0.2.2.pr ≥ 0))).2.2) ∧
  if t = true then c = nF c1 c1.2.2.pr (fun x => { c1.2.2 with pr := x }) 3 0 else c = (c1.1, c1.2.1, { c1.2.2 with pr := -1 })
def HeadT (w e : Int) (c0 : Cd) (X0 : List Sg) (c : Cd) (X : List Sg) : Prop :=
  ∃ c1, c1 = fF c0 c0.2.2.ex (fun x => { c0.2.2 with ex := x }) ∧
  if c1.2.2.ex = true then c = nF c1 c1.2.2.sl (fun x => { c1.2.2 with sl := x }) 3 0 ∧ X = X0 else
  ∃ c2, c2 = fF c1 c1.2.2.sh (fun x => { c1.2.2 with sh := x }) ∧ ∃ c3, c3 = fF c2 c2.2.2.ke (fun x => { c2.2.2 with ke := x }) ∧ ∃ c4, c4 = nF c3 c3.2.2.rf (fun x => { c3.2.2 with rf := x }) 8 0 ∧
  ∃ c5, RefT c4 c5 ∧ ∃ c6, c6 = nF c5 c5.2.2.ba (fun x => { c5.2.2 with ba := x }) 8 0 ∧ TailT w e c6 X0 c X

section
variable {U : Nat → Prop} {M N : Mem} {jc jd jh k i : Nat} {c : Cd} {X : List Sg}
theorem Hm.keep (H : Hm U M jc jd jh c k) (K : Keep M N) : Hm U N jc jd jh c k := ⟨H.st.keep K, at_keep H.hd K, H.nu, H.n1, H.n2, by rw [K.floor]; exact H.fl⟩
theorem Hm.mono {k' : Nat} (H : Hm U M jc jd jh c k) (h : k' ≤ k) : Hm U M jc jd jh c k' := ⟨H.st.mono h, H.hd, H.nu, H.n1, H.n2, H.fl⟩
theorem Hm.put (H : Hm U M jc jd jh c k) {o : Nat} {v : Value} (ho : o < 30) (h1 : oneCell v = true) {h' : Hd} (hs : h'.cs = c.2.2.cs.setIfInBounds o v) :
    ∃ N, M.put (2 * jh) o v = some N ∧ Ext (Pj jc jd jh) U M U N ∧ Hm U N jc jd jh (c.1, c.2.1, h') k := by
  obtain ⟨N, p, C, s, a⟩ := put1 o v H.hd H.fl ho h1
  refine ⟨N, p, Ext.of C fun i _ hi => .inr (.inr (.inr hi)), H.st.chg C fun i _ hu hh => ?_, by rw [a, hs], H.nu, H.n1, H.n2, by rw [C.floor]; exact H.fl⟩
  subst hh
  rcases hu with hu | hu | hu
  · exact H.nu hu
  · exact H.n1 hu
  · exact H.n2 hu
/-- What is left in the end. -/
def Out (U : Nat → Prop) (M : Mem) (jc jd jh k : Nat) (A0 : Option Addr) (T : Cd → List Sg → Prop) : Value → Mem → Prop := fun u N =>
  u = .tuple #[] ∧ ∃ U' c' X', T c' X' ∧ Ext (Pj jc jd jh) U M U' N ∧ Hm U' N jc jd jh c' k ∧ Xm U' N jc jd jh c' X' ∧ ∀ a, c'.2.2.A = some a → A0 = some a ∨ M.nb.size ≤ a.block / 2
set_option maxHeartbeats 1000000 in
theorem e50_1 {U0 : Nat → Prop} {M0 : Mem} {w e : Int} {A0 : Option Addr} (hw : 16 ≤ w ∧ w ≤ 256) (he : 16 ≤ e ∧ e ≤ 256) (E : Ext (Pj jc jd jh) U0 M0 U M) (H : Hm U M jc jd jh c (k + 70)) (hX : Xm U M jc jd jh c X) (hb : X.length ≤ 8)
    (hr : ∀ b p, c.1 = .r b p → X = []) (s : M0.nb[i]? = some (.cells #[.int .i64 w, .int .i64 e] 23)) (ns : ¬ U0 i ∧ ¬ Pj jc jd jh i) (hA : c.2.2.A = A0) :
    A50_1 (some ⟨2 * jc, 0, none⟩) (some ⟨2 * jh, 0, none⟩) (some ⟨2 * i, 0, none⟩) 0 M (Out U0 M0 jc jd jh k A0 (TailT w e c X)) := by
  refine w50_1 (cT (by decide) (ad rfl (ix (x := ⟨2 * jh, 10, none⟩) (by kernel_rfl) (dK (k := k + 68) .refl H rfl (fun x => { c.2.2 with d0 := x }) (fun _ => rfl) fun U1 N1 c1 h1 E1 H1 => ?_))))
  refine w50_1 (cT (by decide) (ad rfl (ix (x := ⟨2 * jh, 11, none⟩) (by kernel_rfl) (dK (k := k + 66) E1 H1 rfl (fun x => { c1.2.2 with d1 := x }) (fun _ => rfl) fun U2 N2 c2 h2 E2 H2 => ?_))))
  refine w50_1 (cT (by decide) (ad rfl (ix (x := ⟨2 * jh, 12, none⟩) (by kernel_rfl) (dK (k := k + 64) E2 H2 rfl (fun x => { c2.2.2 with d2 := x }) (fun _ => rfl) fun U3 N3 c3 h3 E3 H3 => ?_))))
  refine w50_1 (cT (by decide) (ad rfl (ix (x := ⟨2 * jh, 13, none⟩) (by kernel_rfl) (dK (k := k + 62) E3 H3 rfl (fun x => { c3.2.2 with d3 := x }) (fun _ => rfl) fun U4 N4 c4 h4 E4 H4 => ?_))))
  refine w50_1 (cT (by decide) (ad rfl (ix (x := ⟨2 * jh, 14, none⟩) (by kernel_rfl) (dK (k := k + 60) E4 H4 rfl (fun x => { c4.2.2 with d4 := x }) (fun _ => rfl) fun U5 N5 c5 h5 E5 H5 => ?_))))
  have s5 := (E.trans E5).at s ns.1 ns.2
  refine w50_1 (cF (by decide) (ad rfl (ad rfl (on (int_of s5.1 rfl) (gK (k := k + 59) E5 H5 hw rfl (fun x => { c5.2.2 with co := x }) (fun _ => rfl) fun U6 N6 c6 h6 E6 H6 => ?_)))))
  have s6 := (E.trans E6).at s ns.1 ns.2
  refine ad rfl (ad rfl (on (int_of s6.1 rfl) (gK (k := k + 58) E6 H6 he rfl (fun x => { c6.2.2 with ro := x }) (fun _ => rfl) fun U7 N7 c7 h7 E7 H7 => ad rfl (fK (k := k + 57) E7 H7 rfl (fun x => { c7.2.2 with na := x }) (fun _ => rfl) fun U8 N8 c8 h8 E8 H8 => ad rfl (ldA H8.hd rfl (Cn.mono c77 ?_))))))
  rintro _ N9 ⟨rfl, K9⟩
  have q1 : c1.2.2.n = c.2.2.n ∧ c1.2.2.A = c.2.2.A := by rw [h1]; exact ⟨rfl, rfl⟩
  have q2 : c2.2.2.n = c1.2.2.n ∧ c2.2.2.A = c1.2.2.A := by rw [h2]; exact ⟨rfl, rfl⟩
  have q3 : c3.2.2.n = c2.2.2.n ∧ c3.2.2.A = c2.2.2.A := by rw [h3]; exact ⟨rfl, rfl⟩
  have q4 : c4.2.2.n = c3.2.2.n ∧ c4.2.2.A = c3.2.2.A := by rw [h4]; exact ⟨rfl, rfl⟩
  have q5 : c5.2.2.n = c4.2.2.n ∧ c5.2.2.A = c4.2.2.A := by rw [h5]; exact ⟨rfl, rfl⟩
  have q6 : c6.2.2.n = c5.2.2.n ∧ c6.2.2.A = c5.2.2.A := by rw [h6]; exact ⟨rfl, rfl⟩
  have q7 : c7.2.2.n = c6.2.2.n ∧ c7.2.2.A = c6.2.2.A := by rw [h7]; exact ⟨rfl, rfl⟩
  have q8 : c8.2.2.n = c7.2.2.n ∧ c8.2.2.A = c7.2.2.A := by rw [h8]; exact ⟨rfl, rfl⟩
  have n8 : c8.2.2.n = c.2.2.n := by rw [q8.1, q7.1, q6.1, q5.1, q4.1, q3.1, q2.1, q1.1]
  have A8 : c8.2.2.A = c.2.2.A := by rw [q8.2, q7.2, q6.2, q5.2, q4.2, q3.2, q2.2, q1.2]
  clear q1 q2 q3 q4 q5 q6 q7 q8
  have E9 : Ext (Pj jc jd jh) U M U8 N9 := E8.trans (Ext.of K9 fun i _ h => h.elim)
  have X9 := hX.ext (c' := c8) E9 n8 A8
  have H9 := H8.keep K9
  have EE := E.trans E9
  refine ty rfl (cnn (fun hl => ?_) fun hl => ⟨rfl, U8, c8, X, ⟨c1, h1, c2, h2, c3, h3, c4, h4, c5, h5, c6, h6, c7, h7, c8, h8, ?_⟩, EE, H9.mono (by omega), X9, fun a ha => .inl (by rw [← hA, ← A8]; exact ha)⟩)
  · refine Cn.mono (c78 (k := k) (H9.mono (by omega)) X9 hb ?_) ?_
    · intro b p hc
      have w8 : c8.1.isW = c7.1.isW := by rw [h8]; exact flagD_isW ..
      have w7 : c7.1.isW = c6.1.isW := by rw [h7]; exact logD_isW ..
      have w6 : c6.1.isW = c5.1.isW := by rw [h6]; exact logD_isW ..
      have w5 : c5.1.isW = c4.1.isW := by rw [h5]; exact deltaD_isW ..
      have w4 : c4.1.isW = c3.1.isW := by rw [h4]; exact deltaD_isW ..
      have w3 : c3.1.isW = c2.1.isW := by rw [h3]; exact deltaD_isW ..
      have w2 : c2.1.isW = c1.1.isW := by rw [h2]; exact deltaD_isW ..
      have w1 : c1.1.isW = c.1.isW := by rw [h1]; exact deltaD_isW ..
      rw [w7, w6, w5, w4, w3, w2, w1, hc] at w8
      obtain ⟨b0, p0, hl0⟩ := isW_r w8.symm
      exact hr _ _ hl0
    · rintro _ N ⟨_, U', c', X', hT, E', H', hX', hN⟩
      refine ⟨rfl, U', c', X', ⟨c1, h1, c2, h2, c3, h3, c4, h4, c5, h5, c6, h6, c7, h7, c8, h8, ?_⟩, EE.trans E', H', hX', fun a ha => ?_⟩
      · rw [if_neg (by rw [hl]; decide)]; exact hT
      · refine (hN a ha).imp (fun q => by rw [← hA, ← A8]; exact q) fun q => ?_
        have := EE.chg.size; omega
  · rw [if_pos hl]; exact ⟨rfl, rfl⟩
/-- The frames that a header refers to are told, and its primary one; then the quantizer. -/
theorem RefT.keepA {c c' : Cd} (h : RefT c c') : c'.2.2.n = c.2.2.n ∧ c'.2.2.A = c.2.2.A ∧ c'.1.isW = c.1.isW := by
  obtain ⟨c1, t, h1, h2⟩ := h
  have g1 : c1.2.2.n = c.2.2.n ∧ c1.2.2.A = c.2.2.A ∧ c1.1.isW = c.1.isW := by
    split at h1
    · rw [h1.1]; exact ⟨rfl, rfl, rfl⟩
    · obtain ⟨c2, k2, c3, k3, c4, k4, k5, _⟩ := h1
      have q2 : c2.2.2.n = c.2.2.n ∧ c2.2.2.A = c.2.2.A ∧ c2.1.isW = c.1.isW := by rw [k2]; exact ⟨rfl, rfl, numD_isW ..⟩
      have q3 : c3.2.2.n = c2.2.2.n ∧ c3.2.2.A = c2.2.2.A ∧ c3.1.isW = c2.1.isW := by rw [k3]; exact ⟨rfl, rfl, numD_isW ..⟩
      have q4 : c4.2.2.n = c3.2.2.n ∧ c4.2.2.A = c3.2.2.A ∧ c4.1.isW = c3.1.isW := by rw [k4]; exact ⟨rfl, rfl, numD_isW ..⟩
      have q5 : c1.2.2.n = c4.2.2.n ∧ c1.2.2.A = c4.2.2.A ∧ c1.1.isW = c4.1.isW := by rw [k5]; exact ⟨rfl, rfl, flagD_isW ..⟩
      exact ⟨by rw [q5.1, q4.1, q3.1, q2.1], by rw [q5.2.1, q4.2.1, q3.2.1, q2.2.1], by rw [q5.2.2, q4.2.2, q3.2.2, q2.2.2]⟩
  have g2 : c'.2.2.n = c1.2.2.n ∧ c'.2.2.A = c1.2.2.A ∧ c'.1.isW = c1.1.isW := by
    split at h2
    · rw [h2]; exact ⟨rfl, rfl, numD_isW ..⟩
    · rw [h2]; exact ⟨rfl, rfl, rfl⟩
  exact ⟨by rw [g2.1, g1.1], by rw [g2.2.1, g1.2.1], by rw [g2.2.2, g1.2.2]⟩
set_option maxHeartbeats 1000000 in
theorem c50 {w e : Int} (hw : 16 ≤ w ∧ w ≤ 256) (he : 16 ≤ e ∧ e ≤ 256) (H : Hm U M jc jd jh c (k + 90)) (hX : Xm U M jc jd jh c X) (hb : X.length ≤ 8) (hr : ∀ b p, c.1 = .r b p → X = []) :
    Cn Try.prog 50 #[PtrB jc, PtrB jh, .agg #[.int .i64 w, .int .i64 e]] M (Out U M jc jd jh k c.2.2.A (HeadT w e c X)) := by
  have ljd := H.st.dev.lt
  have ljc := lt_of_at H.st.cod
  have ljh := lt_of_at H.hd
  have s := Mem.new_at M (.cells #[.int .i64 w, .int .i64 e] 23)
  have KM : Keep M (M.new (.cells #[.int .i64 w, .int .i64 e] 23)) := .new _ _
  refine w50_0 (ad rfl ?_)
  generalize M.new (.cells #[.int .i64 w, .int .i64 e] 23) = M1 at s KM ⊢
  have ns : ¬ U M.nb.size ∧ ¬ Pj jc jd jh M.nb.size := ⟨fun hu => by have := H.st.ub _ hu; omega, fun hh => by omega⟩
  -- from the second memory back to the first one
  have back : ∀ {T : Cd → List Sg → Prop} {u : Value} {N : Mem}, Out U M1 jc jd jh k c.2.2.A T u N → Out U M jc jd jh k c.2.2.A T u N := by
    rintro T u N ⟨hu, U', c', X', hT, E, H, hX, hA⟩
    exact ⟨hu, U', c', X', hT, (Ext.of KM fun i _ h => h.elim).trans E, H, hX, fun a ha => (hA a ha).imp id fun q => Nat.le_trans KM.size q⟩
  have H0 := H.keep KM
  have X0 : Xm U M1 jc jd jh c X := hX.ext (Ext.of KM fun i _ h => h.elim) rfl rfl
  refine fK (k := k + 89) .refl H0 (o := 0) rfl (fun x => { c.2.2 with ex := x }) (fun _ => rfl) fun U1 N1 c1 h1 E1 H1 => ad rfl (on (bool_of H1.hd rfl) ?_)
  have q1 : c1.2.2.n = c.2.2.n ∧ c1.2.2.A = c.2.2.A ∧ c1.1.isW = c.1.isW := by rw [h1]; exact ⟨rfl, rfl, flagD_isW ..⟩
  refine cn (fun hx => ad rfl (nK (k := k + 88) E1 H1 rfl (by decide) (by decide) (fun x => { c1.2.2 with sl := x }) (fun _ => rfl) fun U2 N2 c2 h2 E2 H2 => back ⟨rfl, U2, c2, X, ⟨c1, h1, ?_⟩, E2, H2.mono (by omega), ?_, ?_⟩)) fun hx => ?_
  · rw [if_pos hx]; exact ⟨h2, rfl⟩
  · have q2 : c2.2.2.n = c1.2.2.n ∧ c2.2.2.A = c1.2.2.A := by rw [h2]; exact ⟨rfl, rfl⟩
    exact X0.ext E2 (by rw [q2.1, q1.1]) (by rw [q2.2, q1.2.1])
  · have q2 : c2.2.2.A = c1.2.2.A := by rw [h2]; rfl
    intro a ha; exact .inl (by rw [← q1.2.1, ← q2]; exact ha)
  refine ad rfl (fK (k := k + 88) E1 H1 rfl (fun x => { c1.2.2 with sh := x }) (fun _ => rfl) fun U2 N2 c2 h2 E2 H2 => ad rfl (fK (k := k + 87) E2 H2 rfl (fun x => { c2.2.2 with ke := x }) (fun _ => rfl) fun U3 N3 c3 h3 E3 H3 => ad rfl (nK (k := k + 86) E3 H3 rfl (by decide) (by decide) (fun x => { c3.2.2 with rf := x }) (fun _ => rfl) fun U4 N4 c4 h4 E4 H4 => ad rfl (on (int_of H4.hd rfl) ?_))))
  have q2 : c2.2.2.n = c1.2.2.n ∧ c2.2.2.A = c1.2.2.A ∧ c2.1.isW = c1.1.isW := by rw [h2]; exact ⟨rfl, rfl, flagD_isW ..⟩
  have q3 : c3.2.2.n = c2.2.2.n ∧ c3.2.2.A = c2.2.2.A ∧ c3.1.isW = c2.1.isW := by rw [h3]; exact ⟨rfl, rfl, flagD_isW ..⟩
  have q4 : c4.2.2.n = c3.2.2.n ∧ c4.2.2.A = c3.2.2.A ∧ c4.1.isW = c3.1.isW := by rw [h4]; exact ⟨rfl, rfl, numD_isW ..⟩
  have Q4 : c4.2.2.n = c.2.2.n ∧ c4.2.2.A = c.2.2.A ∧ c4.1.isW = c.1.isW := ⟨by rw [q4.1, q3.1, q2.1, q1.1], by rw [q4.2.1, q3.2.1, q2.2.1, q1.2.1], by rw [q4.2.2, q3.2.2, q2.2.2, q1.2.2]⟩
  clear q1 q2 q3 q4
  -- from the quantizer on
  have rest : ∀ {U5 : Nat → Prop} {N5 : Mem} {c5 : Cd}, RefT c4 c5 → Ext (Pj jc jd jh) U M1 U5 N5 → Hm U5 N5 jc jd jh c5 (k + 71) →
      Cn Try.prog 74 #[PtrB jc, .pointer (some ⟨2 * jh, 0 + 9, none⟩), .int .i64 8, .int .i64 0] N5 fun _ N => A50_1 (some ⟨2 * jc, 0, none⟩) (some ⟨2 * jh, 0, none⟩) (some ⟨2 * M.nb.size, 0, none⟩) 0 N (Out U M jc jd jh k c.2.2.A (HeadT w e c X)) := by
    intro U5 N5 c5 hT E5 H5
    refine nK (k := k + 70) E5 H5 rfl (by decide) (by decide) (fun x => { c5.2.2 with ba := x }) (fun _ => rfl) fun U6 N6 c6 h6 E6 H6 => ?_
    have r5 := hT.keepA
    have q6 : c6.2.2.n = c5.2.2.n ∧ c6.2.2.A = c5.2.2.A ∧ c6.1.isW = c5.1.isW := by rw [h6]; exact ⟨rfl, rfl, numD_isW ..⟩
    have Q6 : c6.2.2.n = c.2.2.n ∧ c6.2.2.A = c.2.2.A ∧ c6.1.isW = c.1.isW := ⟨by rw [q6.1, r5.1, Q4.1], by rw [q6.2.1, r5.2.1, Q4.2.1], by rw [q6.2.2, r5.2.2, Q4.2.2]⟩
    have g := e50_1 (k := k) (c := c6) (X := X) hw he E6 H6 (X0.ext E6 Q6.1 Q6.2.1) hb (fun b p hc => by
      have h6w := Q6.2.2
      rw [hc] at h6w
      obtain ⟨b0, p0, hl0⟩ := isW_r h6w.symm
      exact hr _ _ hl0) s ns Q6.2.1
    exact LvP.mono g fun u N ⟨hu, U', c', X', hT', EE, HH, XX, AA⟩ => back ⟨hu, U', c', X', ⟨c1, h1, by rw [if_neg (by rw [hx]; decide)]; exact ⟨c2, h2, c3, h3, c4, h4, c5, hT, c6, h6, hT'⟩⟩, EE, HH, XX, AA⟩
  -- a variable for the truth
  have l4 := H4.st.fs
  have q4d := H4.st.dev.lt
  have q4c := lt_of_at H4.st.cod
  have q4h := lt_of_at H4.hd
  have z4 := E4.chg.size
  have qb := Mem.new_at N4 (.cells #[.bool false] 4)
  have Kb : Keep N4 (N4.new (.cells #[.bool false] 4)) := .new _ _
  generalize N4.new (.cells #[.bool false] 4) = Nb at qb Kb ⊢
  obtain ⟨M15, p15, C15, s15, u15⟩ := put1 0 (.bool (decide (c4.2.2.pr ≥ 0))) qb (by rw [Kb.floor]; exact l4) (by decide) rfl
  have K15 : Keep N4 M15 := Keep.step Kb C15 fun i hi => by omega
  have H15 := H4.keep K15
  have nU : ¬ U4 N4.nb.size := fun hu => by have := H4.st.ub _ hu; omega
  refine pt p15 (ad rfl (on (bool_of H15.hd rfl) (cn (fun hk => ?_) fun hk => ?_)))
  · obtain ⟨M18, p18, C18, s18, u18⟩ := put1 0 (.bool false) u15 (by rw [K15.floor]; exact l4) (by simp) rfl
    have K18 : Keep N4 M18 := Keep.step K15 C18 fun i hi => by omega
    have H18 := H4.keep K18
    obtain ⟨M25, p25, E25, H25⟩ := H18.put (o := 8) (v := .int .i64 (-1)) (h' := { c4.2.2 with pr := -1 }) (by decide) rfl rfl
    refine pt p18 (on (bool_of u18 rfl) (cF rfl (ad rfl (pt p25 (ad rfl (rest ⟨c4, false, ?_, ?_⟩ (E4.step K18 E25 fun i hi => .inl hi) (H25.mono (by omega))))))))
    · rw [if_pos hk]; exact ⟨rfl, rfl⟩
    · rw [if_neg (by decide)]
  · refine w50_2 (cT (by decide) (ad rfl (ix (x := ⟨2 * jh, 5, none⟩) (by kernel_rfl) (nK (k := k + 85) .refl H15 rfl (by decide) (by decide) (fun x => { c4.2.2 with r0 := x }) (fun _ => rfl) fun Ua Na ca ha Ea Ha => ?_))))
    refine w50_2 (cT (by decide) (ad rfl (ix (x := ⟨2 * jh, 6, none⟩) (by kernel_rfl) (nK (k := k + 84) Ea Ha rfl (by decide) (by decide) (fun x => { ca.2.2 with r1 := x }) (fun _ => rfl) fun Uc Nc cc hc Ec Hc => ?_))))
    refine w50_2 (cT (by decide) (ad rfl (ix (x := ⟨2 * jh, 7, none⟩) (by kernel_rfl) (nK (k := k + 83) Ec Hc rfl (by decide) (by decide) (fun x => { cc.2.2 with r2 := x }) (fun _ => rfl) fun Ud Nd cd hd Ed Hd' => ?_))))
    have uD := Ed.at u15 nU fun hh => by omega
    refine w50_2 (cF (by decide) (Cn.mono (c73 (k := k + 82) Hd'.st uD.1 (by rw [Ed.chg.floor, K15.floor]; exact l4) (by omega) (by omega) uD.2 (b := decide (c4.2.2.pr ≥ 0)) rfl) ?_))
    rintro _ Ne ⟨_, Ue, Ee, Se, ue, nue⟩
    have he' := Ee.at Hd'.hd Hd'.nu fun hh => by have := Hd'.n1; have := Hd'.n2; omega
    have He : Hm Ue Ne jc jd jh ((flagD cd.1 cd.2.1 (decide (c4.2.2.pr ≥ 0))).1, (flagD cd.1 cd.2.1 (decide (c4.2.2.pr ≥ 0))).2.1, cd.2.2) (k + 82) := ⟨Se, he'.1, he'.2, Hd'.n1, Hd'.n2, by rw [Ee.chg.floor]; exact Hd'.fl⟩
    have EE : Ext (Pj jc jd jh) U M1 Ue Ne := (E4.step K15 Ed fun i hi => .inl hi).step (.refl _) Ee fun i hi => by
      rcases hi with hi | hi | hi
      · exact .inl (.inl hi)
      · exact .inl (.inr (.inl hi))
      · exact .inr (by omega)
    refine ad rfl (on (bool_of ue rfl) (cn (fun ht => ad rfl (nK (k := k + 81) EE He rfl (by decide) (by decide) (fun x => { cd.2.2 with pr := x }) (fun _ => rfl) fun Uf Nf cf hf Ef Hf => ad rfl (rest ⟨((flagD cd.1 cd.2.1 (decide (c4.2.2.pr ≥ 0))).1, (flagD cd.1 cd.2.1 (decide (c4.2.2.pr ≥ 0))).2.1, cd.2.2), true, ?_, ?_⟩ Ef (Hf.mono (by omega))))) fun ht => ?_))
    · rw [if_neg (by rw [hk]; decide)]; exact ⟨ca, ha, cc, hc, cd, hd, rfl, ht.symm⟩
    · rw [if_pos rfl]; exact hf
    · obtain ⟨M25, p25, E25, H25⟩ := He.put (o := 8) (v := .int .i64 (-1)) (h' := { cd.2.2 with pr := -1 }) (by decide) rfl rfl
      refine ad rfl (pt p25 (ad rfl (rest ⟨((flagD cd.1 cd.2.1 (decide (c4.2.2.pr ≥ 0))).1, (flagD cd.1 cd.2.1 (decide (c4.2.2.pr ≥ 0))).2.1, cd.2.2), false, ?_, ?_⟩ (EE.trans E25) (H25.mono (by omega)))))
      · rw [if_neg (by rw [hk]; decide)]; exact ⟨ca, ha, cc, hc, cd, hd, rfl, ht.symm⟩
      · rw [if_neg (by decide)]
end
end Go.Zt


/- Layer 20: the bits of a header; what a writer that is handed a header that may be writes. -/
set_option linter.unusedSimpArgs false
set_option linter.unusedVariables false
set_option maxRecDepth 100000
namespace Go.Zt
open Go Go.Sim Go.Proofs Go.RowKit

def yes (b : Bool) : Nat := if b then 1 else 0
def bI (v : Int) (n : Nat) : List Nat := bitsN v.toNat n
def dBits (v : Int) : List Nat := yes (v != 0) :: (if v != 0 then yes (decide (v < 0)) :: bitsN v.natAbs 5 else [])
def sBits (x : Sg) : List Nat := bI x.a 4 ++ bI x.b 2 ++ bI x.c 4 ++ bI x.d 2
def rBits (h : Hd) : List Nat := if h.ke then [] else bI h.r0 3 ++ bI h.r1 3 ++ bI h.r2 3 ++ [yes (decide (h.pr ≥ 0))] ++ (if h.pr ≥ 0 then bI h.pr 3 else [])
def fBits (h : Hd) (X : List Sg) : List Nat := bI h.l0 6 ++ bI h.l1 6 ++ bI h.l2 6 ++ bI h.l3 6 ++ bI h.sp 3 ++ [yes h.cd] ++ (if h.cd then bI (h.da - 3) 2 ++ bI h.cb 2 ++ X.flatMap sBits else []) ++ [yes h.x0] ++ [yes h.x1] ++ [yes h.x2]
def tBits (h : Hd) (X : List Sg) : List Nat := dBits h.d0 ++ dBits h.d1 ++ dBits h.d2 ++ dBits h.d3 ++ dBits h.d4 ++ bI h.co 2 ++ bI h.ro 2 ++ [yes h.na] ++ (if h.less then [] else fBits h X)
def hBits (h : Hd) (X : List Sg) : List Nat := [yes h.ex] ++ (if h.ex then bI h.sl 3 else [yes h.sh] ++ [yes h.ke] ++ bI h.rf 8 ++ rBits h ++ bI h.ba 8 ++ tBits h X)

theorem numD_w {l : List Nat} {v f : Int} {n : Nat} (hn : n ≤ 32) (h0 : 0 ≤ v - f) (h1 : v - f < ((2 ^ n : Nat) : Int)) : numD (.w l) 0 v n f = (.w (l ++ bI (v - f) n), 0, v) := by
  have hp : 2 ^ n ≤ 4294967296 := pow32 hn
  have e1 : IntKind.i64.wrap (v - f) = v - f := i64w (by omega)
  have e2 : toU (v - f) = (v - f).toNat := by unfold toU; omega
  have e3 : wFixed l (v - f).toNat n = (0, l ++ bitsN (v - f).toNat n) := by unfold wFixed; rw [if_neg (by rw [Int.toNat_natCast]; omega)]; rfl
  unfold numD
  rw [if_neg (by decide)]
  simp only [e1, e2, e3, bI]
theorem flagD_w {l : List Nat} {b : Bool} : flagD (.w l) 0 b = (.w (l ++ [yes b]), 0, b) := by
  cases b
  · have := numD_w (l := l) (v := 0) (f := 0) (n := 1) (by decide) (by decide) (by decide)
    unfold flagD; simp only [Bool.false_eq_true, if_false]
    rw [show ((1 : Nat) : Int) = 1 from rfl] at this
    rw [this]; rfl
  · have := numD_w (l := l) (v := 1) (f := 0) (n := 1) (by decide) (by decide) (by decide)
    unfold flagD; simp only [if_true]
    rw [show ((1 : Nat) : Int) = 1 from rfl] at this
    rw [this]; rfl
theorem deltaD_w {l : List Nat} {v : Int} (hv : -31 ≤ v ∧ v ≤ 31) : deltaD (.w l) 0 v = (.w (l ++ dBits v), 0, v) := by
  unfold deltaD
  rw [flagD_w]
  by_cases h0 : v = 0
  · subst h0; rfl
  · have hb : (v != 0) = true := by simpa using h0
    have e1 : IntKind.i32.wrap v = v := i32w (by omega)
    have e2 : ∀ l, wSigned l v 5 = (0, l ++ (if v < 0 then 1 else 0) :: bitsN v.natAbs 5) := fun l => by
      unfold wSigned
      rw [if_neg (by rw [show (5 : Int).toNat = 5 from rfl]; omega)]; rfl
    rw [hb]
    simp only [Bool.true_eq_false, ne_eq, not_true_eq_false, or_self, if_false, e1, e2]
    unfold dBits
    rw [hb]
    by_cases hn : v < 0
    · simp [hn, yes]
    · simp [hn, yes]
theorem logD_w {l : List Nat} {v s : Int} (hv : logM v s = true) : logD (.w l) 0 v s = (.w (l ++ bI v 2), 0, v) := by
  have h2 := of_decide_eq_true hv
  have := numD_w (l := l) (v := v) (f := 0) (n := 2) (by decide) (by omega) (by show v - 0 < 4; omega)
  rw [show ((2 : Nat) : Int) = 2 from rfl, Int.sub_zero] at this
  unfold logD
  rw [this]
  simp only [hv]
  rfl
section
variable {l : List Nat} {h : Hd} {X : List Sg}
theorem nFw {v f : Int} {n : Nat} {s : Int → Hd} (hn : n ≤ 32) (h0 : 0 ≤ v - f) (h1 : v - f < ((2 ^ n : Nat) : Int)) (hs : s v = h) : nF (.w l, 0, h) v s n f = (.w (l ++ bI (v - f) n), 0, h) := by
  unfold nF; simp only [numD_w hn h0 h1, hs]
theorem nFw0 {v : Int} {n : Nat} {s : Int → Hd} (hn : n ≤ 32) (h0 : 0 ≤ v) (h1 : v < ((2 ^ n : Nat) : Int)) (hs : s v = h) : nF (.w l, 0, h) v s n 0 = (.w (l ++ bI v n), 0, h) := by
  have := nFw (l := l) (h := h) (v := v) (f := 0) (n := n) (s := s) hn (by omega) (by omega) hs
  rw [Int.sub_zero] at this; exact this
theorem fFw {v : Bool} {s : Bool → Hd} (hs : s v = h) : fF (.w l, 0, h) v s = (.w (l ++ [yes v]), 0, h) := by
  unfold fF; simp only [flagD_w, hs]
theorem dFw {v : Int} {s : Int → Hd} (hv : -31 ≤ v ∧ v ≤ 31) (hs : s v = h) : dF' (.w l, 0, h) v s = (.w (l ++ dBits v), 0, h) := by
  unfold dF'; simp only [deltaD_w hv, hs]
theorem gFw {v z : Int} {s : Int → Hd} (hv : logM v z = true) (hs : s v = h) : gF (.w l, 0, h) v s z = (.w (l ++ bI v 2), 0, h) := by
  unfold gF; simp only [logD_w hv, hs]
theorem numD_w0 {v : Int} {n : Nat} (hn : n ≤ 32) (h0 : 0 ≤ v) (h1 : v < ((2 ^ n : Nat) : Int)) : numD (.w l) 0 v n 0 = (.w (l ++ bI v n), 0, v) := by
  have := numD_w (l := l) (v := v) (f := 0) (n := n) hn (by omega) (by omega)
  rw [Int.sub_zero] at this; exact this
theorem sg1_w {x : Sg} (hx : x.may = true) : sg1 (.w l) 0 x = (.w (l ++ sBits x), 0, x) := by
  have := of_decide_eq_true hx
  unfold sg1
  have a1 : numD (.w l) 0 x.a 4 0 = _ := numD_w0 (l := l) (v := x.a) (n := 4) (by decide) (by omega) (by show x.a < 16; omega)
  simp only [a1]
  have a2 : ∀ l, numD (.w l) 0 x.b 2 0 = _ := fun l => numD_w0 (l := l) (v := x.b) (n := 2) (by decide) (by omega) (by show x.b < 4; omega)
  simp only [a2]
  have a3 : ∀ l, numD (.w l) 0 x.c 4 0 = _ := fun l => numD_w0 (l := l) (v := x.c) (n := 4) (by decide) (by omega) (by show x.c < 16; omega)
  simp only [a3]
  have a4 : ∀ l, numD (.w l) 0 x.d 2 0 = _ := fun l => numD_w0 (l := l) (v := x.d) (n := 2) (by decide) (by omega) (by show x.d < 4; omega)
  simp only [a4]
  unfold sBits
  simp only [List.append_assoc]
theorem sgsD_wb : ∀ (X : List Sg) (l : List Nat), X.all Sg.may = true → sgsD (.w l) 0 X = (.w (l ++ X.flatMap sBits), 0, X)
  | [], l, _ => by simp [sgsD]
  | x :: X, l, hX => by
    simp only [List.all_cons, Bool.and_eq_true] at hX
    simp only [sgsD, sg1_w hX.1, sgsD_wb X _ hX.2, List.flatMap_cons, List.append_assoc]
theorem FiltT_w {c : Cd} {X' : List Sg} (hm : h.mayF X = true) (hl : h.less = false) (ht : FiltT (.w l, 0, h) X c X') : c = (.w (l ++ fBits h X), 0, h) ∧ X' = X := by
  unfold Hd.mayF at hm
  rw [hl] at hm
  simp only [Bool.false_eq_true, if_false, Bool.and_eq_true, decide_eq_true_eq] at hm
  obtain ⟨⟨ms, mc, m0, m1, m2, m3⟩, mX⟩ := hm
  obtain ⟨c1, h1, c2, h2, c3, h3, c4, h4, c5, h5, c6, h6, c7, h7, c8, h8, c9, h9, h10⟩ := ht
  have g1 := h1.trans (nFw0 (n := 6) (by decide) m0.1 (by show h.l0 < 64; omega) rfl); clear h1; subst g1
  have g2 := h2.trans (nFw0 (n := 6) (by decide) m1.1 (by show h.l1 < 64; omega) rfl); clear h2; subst g2
  have g3 := h3.trans (nFw0 (n := 6) (by decide) m2.1 (by show h.l2 < 64; omega) rfl); clear h3; subst g3
  have g4 := h4.trans (nFw0 (n := 6) (by decide) m3.1 (by show h.l3 < 64; omega) rfl); clear h4; subst g4
  have g5 := h5.trans (nFw0 (n := 3) (by decide) ms.1 (by show h.sp < 8; omega) rfl); clear h5; subst g5
  have g6 := h6.trans (fFw rfl); clear h6; subst g6
  have g7 : c7 = (.w (l ++ bI h.l0 6 ++ bI h.l1 6 ++ bI h.l2 6 ++ bI h.l3 6 ++ bI h.sp 3 ++ [yes h.cd] ++ (if h.cd then bI (h.da - 3) 2 ++ bI h.cb 2 ++ X.flatMap sBits else [])), 0, h) ∧ X' = X := by
    split at h7
    · rename_i hq
      have hc : h.cd = true := hq.1
      rw [if_pos hc]
      rw [if_pos hc] at mc
      obtain ⟨a1, k1, a2, k2, a3, Y, k3, k4, k5⟩ := h7
      have q1 := k1.trans (nFw (n := 2) (f := 3) (by decide) (show 0 ≤ h.da - 3 by omega) (by show h.da - 3 < 4; omega) rfl); clear k1; subst q1
      have q2 := k2.trans (nFw0 (n := 2) (by decide) mc.2.1.1 (by show h.cb < 4; omega) rfl); clear k2; subst q2
      obtain ⟨k3, rfl⟩ := k3
      subst k3
      simp only [sgsD_wb Y _ mX] at k4 k5
      rw [k4, k5]
      simp only [List.append_assoc, and_self]
    · rename_i hq
      have hc : h.cd = false := by
        cases hc : h.cd
        · rfl
        · exact absurd ⟨hc, rfl⟩ hq
      rw [h7.1, h7.2]; simp [hc]
  obtain ⟨g7, rfl⟩ := g7
  subst g7
  have g8 := h8.trans (fFw rfl); clear h8; subst g8
  have g9 := h9.trans (fFw rfl); clear h9; subst g9
  have g10 := h10.trans (fFw rfl)
  refine ⟨?_, rfl⟩
  rw [g10]; unfold fBits
  simp only [List.append_assoc]
theorem HeadT_w {c : Cd} {X' : List Sg} {w e : Int} (hm : h.may X w e = true) (ht : HeadT w e (.w l, 0, h) X c X') : c = (.w (l ++ hBits h X), 0, h) ∧ X' = X := by
  obtain ⟨c1, h1, ht⟩ := ht
  have g1 := h1.trans (fFw rfl); clear h1; subst g1
  have mS : mayS w e = true := by unfold Hd.may at hm; simp only [Bool.and_eq_true] at hm; exact hm.1.1.1
  split at ht
  · rename_i hx
    have hx : h.ex = true := hx
    unfold Hd.may at hm
    simp only [hx, if_true, Bool.and_eq_true, decide_eq_true_eq] at hm
    have sl := hm.1.1.2.1
    have g2 := ht.1.trans (nFw0 (n := 3) (by decide) sl.1 (by show h.sl < 8; omega) rfl)
    refine ⟨?_, ht.2⟩
    rw [g2]; unfold hBits; simp [hx, List.append_assoc]
  · rename_i hx
    have hx : h.ex = false := by simpa using hx
    obtain ⟨⟨sl, rf, pr, ba⟩, mk, mr, md, mco, mro, mf⟩ := (may_iff hx mS).1 hm
    obtain ⟨c2, h2, c3, h3, c4, h4, c5, h5, c6, h6, ht⟩ := ht
    have g2 := h2.trans (fFw rfl); clear h2; subst g2
    have g3 := h3.trans (fFw rfl); clear h3; subst g3
    have g4 := h4.trans (nFw0 (n := 8) (by decide) rf.1 (by show h.rf < 256; omega) rfl); clear h4; subst g4
    have g5 : c5 = (.w (l ++ [yes h.ex] ++ [yes h.sh] ++ [yes h.ke] ++ bI h.rf 8 ++ rBits h), 0, h) := by
      obtain ⟨a1, t, k1, k2⟩ := h5
      unfold rBits
      split at k1
      · rename_i hk
        have hk : h.ke = true := hk
        obtain ⟨k1, rfl⟩ := k1
        subst k1
        simp only [Bool.false_eq_true, if_false] at k2
        have hp := (mk hk).2
        rw [k2, if_pos hk, List.append_nil]
        have : ({ h with pr := -1 } : Hd) = h := by rw [← hp]
        rw [this]
      · rename_i hk
        have hk : ¬ h.ke = true := hk
        rw [if_neg hk]
        obtain ⟨b1, q1, b2, q2, b3, q3, q4, q5⟩ := k1
        have p1 := q1.trans (nFw0 (n := 3) (by decide) mr.1.1 (by show h.r0 < 8; omega) rfl); clear q1; subst p1
        have p2 := q2.trans (nFw0 (n := 3) (by decide) mr.2.1.1 (by show h.r1 < 8; omega) rfl); clear q2; subst p2
        have p3 := q3.trans (nFw0 (n := 3) (by decide) mr.2.2.1 (by show h.r2 < 8; omega) rfl); clear q3; subst p3
        simp only [flagD_w] at q4 q5
        subst q4 q5
        by_cases hp : h.pr ≥ 0
        · rw [if_pos (decide_eq_true hp)] at k2
          have p4 := k2.trans (nFw0 (n := 3) (by decide) hp (by show h.pr < 8; omega) rfl)
          rw [p4, if_pos hp]; simp only [List.append_assoc]
        · rw [if_neg (by simpa using hp)] at k2
          have hp' : h.pr = -1 := by omega
          rw [k2, if_neg hp, List.append_nil]
          have : ({ h with pr := -1 } : Hd) = h := by rw [← hp']
          rw [this]; simp only [List.append_assoc]
    subst g5
    have g6 := h6.trans (nFw0 (n := 8) (by decide) ba.1 (by show h.ba < 256; omega) rfl); clear h6; subst g6
    obtain ⟨a1, k1, a2, k2, a3, k3, a4, k4, a5, k5, a6, k6, a7, k7, a8, k8, k9⟩ := ht
    have p1 := k1.trans (dFw md.1 rfl); clear k1; subst p1
    have p2 := k2.trans (dFw md.2.1 rfl); clear k2; subst p2
    have p3 := k3.trans (dFw md.2.2.1 rfl); clear k3; subst p3
    have p4 := k4.trans (dFw md.2.2.2.1 rfl); clear k4; subst p4
    have p5 := k5.trans (dFw md.2.2.2.2 rfl); clear k5; subst p5
    have p6 := k6.trans (gFw mco rfl); clear k6; subst p6
    have p7 := k7.trans (gFw mro rfl); clear k7; subst p7
    have p8 := k8.trans (fFw rfl); clear k8; subst p8
    split at k9
    · rename_i hl
      have hl : h.less = true := hl
      refine ⟨?_, k9.2⟩
      rw [k9.1]; unfold hBits tBits; simp [hx, hl, List.append_assoc]
    · rename_i hl
      have hl : h.less = false := by simpa using hl
      obtain ⟨r1, r2⟩ := FiltT_w mf hl k9
      refine ⟨?_, r2⟩
      rw [r1]; unfold hBits tBits; simp [hx, hl, List.append_assoc]
end
end Go.Zt

