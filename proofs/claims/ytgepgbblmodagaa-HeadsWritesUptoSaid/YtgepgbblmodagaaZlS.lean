/- Layer 20: the program's coding of numbers, truths, deltas, logs: writing or reading, its first error noted. -/
import Derived.Test.YtgepgbblmodagaaZlR
set_option linter.unusedSimpArgs false
set_option linter.unusedVariables false
set_option maxRecDepth 100000
namespace Go.Zt
open Go Go.Sim Go.Proofs Go.RowKit
inductive Dv where
  | w (l : List Nat)
  | r (b : List Nat) (p : Nat)
abbrev Dv.wp (j : Nat) : Dv → Value
  | .w _ => PtrB j
  | .r _ _ => .pointer none
abbrev Dv.rp (j : Nat) : Dv → Value
  | .w _ => .pointer none
  | .r _ _ => PtrB j
def Dv.len : Dv → Nat
  | .w l => l.length
  | .r _ _ => 0
def DvM (U : Nat → Prop) (M : Mem) (j : Nat) : Dv → Prop
  | .w l => Wr (fun i => U i ∨ M.nb.size ≤ i) M j l
  | .r b p => Rdr U M j b p
structure St (U : Nat → Prop) (M : Mem) (jc jd : Nat) (d : Dv) (e k : Nat) : Prop where
  dev : DvM U M jd d
  fl : ∀ i, U i ∨ i = jd ∨ i = jc → M.floor ≤ i
  fs : M.floor ≤ M.nb.size
  cod : M.nb[jc]? = some (.cells #[d.wp jd, d.rp jd, .int .i64 (e : Nat)] 89)
  nc : ¬ U jc
  cd : jc ≠ jd
  len : d.len + 40 * k ≤ 80000000000
  ub : ∀ i, U i → i < M.nb.size
structure Ext (P U : Nat → Prop) (M : Mem) (U' : Nat → Prop) (N : Mem) : Prop where
  sub : ∀ i, U' i → U i ∨ M.nb.size ≤ i
  chg : Chg (fun i => U i ∨ P i) M N
theorem Ext.refl {P U : Nat → Prop} {M : Mem} : Ext P U M U M := ⟨fun _ h => .inl h, .refl _⟩
theorem Ext.trans {P U U1 U2 : Nat → Prop} {M M1 M2 : Mem} (h : Ext P U M U1 M1) (k : Ext P U1 M1 U2 M2) : Ext P U M U2 M2 :=
  ⟨fun i hi => (k.sub i hi).elim (h.sub i) fun hs => .inr (Nat.le_trans h.chg.size hs),
   ⟨k.chg.base.trans h.chg.base, k.chg.floor.trans h.chg.floor, Nat.le_trans h.chg.size k.chg.size, fun j hj hs =>
    (k.chg.same j (Nat.lt_of_lt_of_le hj h.chg.size) fun hh => hh.elim (fun h1 => (h.sub j h1).elim (fun q => hs (.inl q)) fun q => by omega) fun h1 => hs (.inr h1)).trans (h.chg.same j hj hs)⟩⟩
theorem Ext.mono {P Q U U1 : Nat → Prop} {M M1 : Mem} (h : Ext P U M U1 M1) (hP : ∀ i, i < M.nb.size → P i → Q i) : Ext Q U M U1 M1 := ⟨h.sub, h.chg.mono fun i hi hs => hs.imp id (hP i hi)⟩
theorem Ext.of {P U T : Nat → Prop} {M M1 : Mem} (h : Chg T M M1) (hT : ∀ i, i < M.nb.size → T i → U i ∨ P i) : Ext P U M U M1 := ⟨fun _ h => .inl h, h.mono hT⟩
theorem Ext.at {P U U1 : Nat → Prop} {M M1 : Mem} (h : Ext P U M U1 M1) {j : Nat} {b : Blk} (a : M.nb[j]? = some b) (n1 : ¬ U j) (n2 : ¬ P j) : M1.nb[j]? = some b ∧ ¬ U1 j := by
  have hl := lt_of_at a
  exact ⟨at_chg a h.chg fun hh => hh.elim n1 n2, fun hu => (h.sub j hu).elim n1 fun q => by omega⟩
theorem Wr.shrink {S T : Nat → Prop} {M : Mem} {j : Nat} {l : List Nat} (h : Wr S M j l) (hS : ∀ i, i < M.nb.size → S i → T i) (hj : ¬ T j) : Wr T M j l := by
  obtain ⟨A, c, g1, g2, g3⟩ := h.ex
  exact ⟨hj, h.bin, h.len, A, c, g1, g2.mono hS, g3⟩
section
variable {U : Nat → Prop} {M N : Mem} {jc jd jt k e : Nat} {d : Dv}
theorem DvM.lt (h : DvM U M jd d) : jd < M.nb.size := by
  cases d with
  | w l => obtain ⟨A, c, g1, _⟩ := h.ex; exact lt_of_at g1
  | r b p => obtain ⟨A, c, g1, _⟩ := h.ex; exact lt_of_at g1
theorem DvM.out (h : DvM U M jd d) : ¬ U jd := by
  cases d with
  | w l => exact fun hu => h.out (.inl hu)
  | r b p => exact h.out
theorem DvM.chg {T : Nat → Prop} (h : DvM U M jd d) (k : Chg T M N) (hT : ∀ i, i < M.nb.size → U i ∨ i = jd → ¬ T i) : DvM U N jd d := by
  have hl := h.lt
  have ho := h.out
  cases d with
  | w l =>
    have h1 : Wr U M jd l := h.shrink (fun i hi hs => hs.resolve_right (by omega)) ho
    obtain ⟨A, c, g1, g2, g3⟩ := h1.ex
    refine ⟨fun hs => hs.elim ho fun q => by have := k.size; omega, h1.bin, h1.len, A, c, at_chg g1 k (hT jd hl (.inr rfl)), ?_, g3⟩
    exact (g2.chg k fun i hi hs => hT i hi (.inl hs)).mono fun i _ hs => .inl hs
  | r b p =>
    obtain ⟨A, c, h1, h2, h3, h0, h4⟩ := h.ex
    refine ⟨h.out, h.byt, h.len, h.pos, A, c, at_chg h1 k (hT jd hl (.inr rfl)), ?_, h3, h0, h4⟩
    exact Row.chg h2 (k.mono (T := fun i => T i ∧ i < M.nb.size) fun i hi ht => ⟨ht, hi⟩) fun a ha => (h4 a ha).imp id fun hu hs => hT _ hs.2 (.inl hu) hs.1
theorem St.chg {T : Nat → Prop} (h : St U M jc jd d e k) (q : Chg T M N) (hT : ∀ i, i < M.nb.size → U i ∨ i = jd ∨ i = jc → ¬ T i) : St U N jc jd d e k :=
  ⟨h.dev.chg q fun i hi hu => hT i hi (hu.imp id .inl), fun i hi => by rw [q.floor]; exact h.fl i hi, by rw [q.floor]; exact Nat.le_trans h.fs q.size, at_chg h.cod q (hT jc (lt_of_at h.cod) (.inr (.inr rfl))), h.nc, h.cd, h.len, fun i hi => Nat.lt_of_lt_of_le (h.ub i hi) q.size⟩
theorem St.keep (h : St U M jc jd d e k) (q : Keep M N) : St U N jc jd d e k := h.chg q fun _ _ _ x => x
theorem St.mono {k' : Nat} (h : St U M jc jd d e k) (hk : k' ≤ k) : St U M jc jd d e k' := ⟨h.dev, h.fl, h.fs, h.cod, h.nc, h.cd, by have := h.len; omega, h.ub⟩
theorem St.err (h : St U M jc jd d e k) (e' : Nat) : ∃ N, M.put (2 * jc) 2 (.int .i64 (e' : Nat)) = some N ∧ Chg (· = jc) M N ∧ N.nb.size = M.nb.size ∧ St U N jc jd d e' k := by
  obtain ⟨N, p, C, s, u⟩ := put1 2 (.int .i64 (e' : Nat)) h.cod (h.fl jc (.inr (.inr rfl))) (by simp) rfl
  exact ⟨N, p, C, s, h.dev.chg C fun i _ hu hc => hu.elim (fun hu => h.nc (hc ▸ hu)) fun hd => h.cd (hc ▸ hd), fun i hi => by rw [C.floor]; exact h.fl i hi, by rw [C.floor, s]; exact h.fs, u, h.nc, h.cd, h.len, by rw [s]; exact h.ub⟩
def numD (d : Dv) (e : Nat) (v n f : Int) : Dv × Nat × Int :=
  if e ≠ 0 then (d, e, v) else match d with
  | .w l => (.w (wFixed l (toU (IntKind.i64.wrap (v - f))) n).2, (wFixed l (toU (IntKind.i64.wrap (v - f))) n).1, v)
  | .r b p => (.r b (rFixed b p n).2.2, (rFixed b p n).2.1, if (rFixed b p n).2.1 = 0 then ((rFixed b p n).1 : Nat) + f else v)
theorem setSame {cs : Array Value} {o : Nat} {x : Value} (h : cs[o]? = some x) : cs.setIfInBounds o x = cs := by
  apply Array.ext_getElem?
  intro i
  rw [Array.getElem?_setIfInBounds]
  split
  · rename_i e; subst e
    obtain ⟨h1, h2⟩ := Array.getElem?_eq_some_iff.1 h
    simp [h1, h2]
  · rfl
theorem toU_lt (x : Int) : toU x < 4294967296 := by unfold toU; omega
theorem wFixed_len (l : List Nat) (v : Nat) {n : Int} (h : n ≤ 32) : (wFixed l v n).2.length ≤ l.length + 32 := by
  unfold wFixed
  split
  · simp
  · simp [bitsN_len]; omega
theorem St.wr {l l' : List Nat} {N : Mem} (h : St U M jc jd (.w l) e (k + 1)) (C : Chg (fun i => (U i ∨ M.nb.size ≤ i) ∨ i = jd) M N) (W : Wr (fun i => U i ∨ M.nb.size ≤ i) N jd l') (hl : l'.length ≤ l.length + 40) (e' : Nat) :
    ∃ N2, N.put (2 * jc) 2 (.int .i64 (e' : Nat)) = some N2 ∧ ∃ U', Ext (fun i => i = jc ∨ i = jd) U M U' N2 ∧ St U' N2 jc jd (.w l') e' k := by
  have hc := lt_of_at h.cod
  have hd := h.dev.lt
  have nc : ¬ ((U jc ∨ M.nb.size ≤ jc) ∨ jc = jd) := fun hh => hh.elim (fun q => q.elim h.nc fun q => by omega) h.cd
  have a := at_chg h.cod C nc
  obtain ⟨N2, p, C2, s, u⟩ := put1 2 (.int .i64 (e' : Nat)) a (by rw [C.floor]; exact h.fl jc (.inr (.inr rfl))) (by simp) rfl
  refine ⟨N2, p, fun i => U i ∨ (M.nb.size ≤ i ∧ i < N2.nb.size), ⟨fun i hi => hi.imp id fun q => q.1, ?_⟩, ?_, ?_, ?_, u, ?_, h.cd, ?_, ?_⟩
  · exact (C.mono (T := fun i => U i ∨ i = jc ∨ i = jd) fun i hi hs => hs.elim (fun q => .inl (q.resolve_right (by omega))) fun q => .inr (.inr q)).trans (C2.mono fun i hi hs => .inr (.inl hs))
  · refine (W.chg C2 fun i hi hs hj => ?_).shrink (fun i hi hs => ?_) ?_
    · subst hj
      exact nc (hs.imp id id)
    · exact .inl (hs.imp id fun q => ⟨q, hi⟩)
    · rintro ((hu | hu) | hu)
      · exact h.dev.out hu
      · omega
      · have := C.size; omega
  · intro i hi
    rw [C2.floor, C.floor]
    rcases hi with (hi | hi) | hi
    · exact h.fl i (.inl hi)
    · exact Nat.le_trans h.fs hi.1
    · exact h.fl i (.inr hi)
  · rw [C2.floor, C.floor]; have := C.size; have := h.fs; omega
  · rintro (hu | hu)
    · exact h.nc hu
    · omega
  · have := h.len
    simp only [Dv.len] at this ⊢; omega
  · rintro i (hi | hi)
    · have := h.ub i hi; have := C.size; have := C2.size; omega
    · exact hi.2
theorem St.flw {l : List Nat} (h : St U M jc jd (.w l) e k) : Fl (fun i => U i ∨ M.nb.size ≤ i) M jd :=
  ⟨fun i hi => by
    rcases hi with (hi | hi) | hi
    · exact h.fl i (.inl hi)
    · exact Nat.le_trans h.fs hi
    · exact h.fl i (.inr (.inl hi)), fun i hi => .inr hi⟩
theorem c74e (h : St U M jc jd d e k) (he : e ≠ 0) {p : Option Addr} {n f : Int} : Cn Try.prog 74 #[PtrB jc, .pointer p, .int .i64 n, .int .i64 f] M fun u N => u = .tuple #[] ∧ N = M :=
  w74_0 (ad rfl (on (int_of h.cod rfl) (cne (fun _ => ⟨rfl, rfl⟩) fun h0 => absurd h0 (by omega))))
theorem c74w {l : List Nat} (h : St U M jc jd (.w l) 0 (k + 1)) {a : Addr} {v n f : Int} (hv : M.intAt .i64 a.block a.off = some v) (hn : n ≤ 32) :
    Cn Try.prog 74 #[PtrB jc, .pointer (some a), .int .i64 n, .int .i64 f] M fun u N => u = .tuple #[] ∧ ∃ U', Ext (fun i => i = jc ∨ i = jd) U M U' N ∧ St U' N jc jd (numD (.w l) 0 v n f).1 (numD (.w l) 0 v n f).2.1 k := by
  have hl := h.len
  refine w74_0 (ad rfl (on (int_of h.cod rfl) (cne (fun h0 => absurd rfl h0) fun _ => ad rfl (on (ptr_of h.cod rfl) (cT rfl (ad rfl (on (ptr_of h.cod rfl) (ad rfl (on hv (Cn.mono (c22 h.flw h.dev (toU_wrap _) (toU_lt _) n (by simp only [Dv.len] at hl; omega)) ?_)))))))))) 
  rintro _ N ⟨rfl, C, W⟩
  obtain ⟨N2, p, U', E, S⟩ := h.wr C W (by have := wFixed_len l (toU (IntKind.i64.wrap (v - f))) hn; omega) (wFixed l (toU (IntKind.i64.wrap (v - f))) n).1
  exact ty rfl (ad rfl (pt p ⟨rfl, U', E, S⟩))
theorem c74 {cs : Array Value} {t : TypeId} {o : Nat} {v : Int} (h : St U M jc jd d e (k + 1)) (a : M.nb[jt]? = some (.cells cs t)) (hf : M.floor ≤ jt) (n1 : jt ≠ jd) (n2 : jt ≠ jc) (n3 : ¬ U jt) (hv : cs[o]? = some (.int .i64 v)) {n f : Int} (hn : n ≤ 32) (hf3 : 0 ≤ f ∧ f ≤ 3) :
    Cn Try.prog 74 #[PtrB jc, .pointer (some ⟨2 * jt, o, none⟩), .int .i64 n, .int .i64 f] M fun u N => u = .tuple #[] ∧ ∃ U', Ext (fun i => i = jc ∨ i = jd ∨ i = jt) U M U' N ∧ St U' N jc jd (numD d e v n f).1 (numD d e v n f).2.1 k ∧ N.nb[jt]? = some (.cells (cs.setIfInBounds o (.int .i64 (numD d e v n f).2.2)) t) ∧ ¬ U' jt := by
  by_cases he : e ≠ 0
  · have q : numD d e v n f = (d, e, v) := by unfold numD; rw [if_pos he]
    rw [q]
    refine Cn.mono (c74e h he) ?_
    rintro _ N ⟨rfl, rfl⟩
    exact ⟨rfl, U, .refl, h.mono (by omega), by rw [setSame hv]; exact a, n3⟩
  · have he : e = 0 := by omega
    subst he
    cases d with
    | w l =>
      refine Cn.mono (c74w (f := f) h (int_of a hv) hn) ?_
      rintro _ N ⟨rfl, U', E, S⟩
      have q : (numD (.w l) 0 v n f).2.2 = v := rfl
      have := E.at a n3 fun hh => hh.elim n2 n1
      exact ⟨rfl, U', E.mono fun i _ hh => hh.imp id .inl, S, by rw [q, setSame hv]; exact this.1, this.2⟩
    | r b p =>
      refine w74_0 (ad rfl (on (int_of h.cod rfl) (cne (fun h0 => absurd rfl h0) fun _ => ad rfl (on (ptr_of h.cod rfl) (cF rfl (ad rfl (on (ptr_of h.cod rfl) (Cn.mono (c33 h.dev (h.fl jd (.inr (.inl rfl))) n) ?_))))))))
      rintro _ N ⟨rfl, C, s, R⟩
      have S1 : St U N jc jd (.r b (rFixed b p n).2.2) 0 (k + 1) := ⟨R, fun i hi => by rw [C.floor]; exact h.fl i hi, by rw [C.floor, s]; exact h.fs, at_chg h.cod C h.cd, h.nc, h.cd, h.len, by rw [s]; exact h.ub⟩
      have a1 := at_chg a C n1
      obtain ⟨N2, p2, C2, s2, S2⟩ := S1.err (rFixed b p n).2.1
      have a2 := at_chg a1 C2 n2
      have E2 : Ext (fun i => i = jc ∨ i = jd ∨ i = jt) U M U N2 := (Ext.of C fun i _ hh => .inr (.inr (.inl hh))).trans (Ext.of C2 fun i _ hh => .inr (.inl hh))
      refine ty rfl (ty rfl (ty rfl (ad rfl (pt p2 (ad rfl (on (int_of S2.cod rfl) (ce (fun h0 => ad rfl ?_) fun h0 => ?_)))))))
      · have h0' : (rFixed b p n).2.1 = 0 := by omega
        have hr : (rFixed b p n).1 < 4294967296 := by
          unfold rFixed
          split
          · show 0 < _; omega
          · split
            · show 0 < _; omega
            · rename_i h1 _
              have := numb_lt (bitOf_lt b) p n.toNat
              have := pow32 (n := n.toNat) (by omega)
              dsimp only; omega
        rw [i64w (x := (((rFixed b p n).1 : Nat) : Int)) (by omega), i64w (by omega)]
        obtain ⟨N3, p3, C3, s3, u3⟩ := put1 o (.int .i64 ((((rFixed b p n).1 : Nat) : Int) + f)) a2 (by rw [C2.floor, C.floor]; exact hf) (Array.getElem?_eq_some_iff.1 hv).1 rfl
        refine pt p3 ⟨rfl, U, E2.trans (Ext.of C3 fun i _ hh => .inr (.inr (.inr hh))), ?_, ?_, n3⟩
        · exact (S2.chg C3 fun i _ hu hh => by
            subst hh
            rcases hu with hu | hu | hu
            · exact n3 hu
            · exact n1 hu
            · exact n2 hu).mono (by omega)
        · have q : (numD (.r b p) 0 v n f).2.2 = (((rFixed b p n).1 : Nat) : Int) + f := by
            show (if (rFixed b p n).2.1 = 0 then _ else _) = _
            rw [if_pos h0']
          rw [q]; exact u3
      · have q : (numD (.r b p) 0 v n f).2.2 = v := by
          show (if (rFixed b p n).2.1 = 0 then _ else _) = _
          rw [if_neg (by omega)]
        exact ⟨rfl, U, E2, S2.mono (by omega), by rw [q, setSame hv]; exact a2, n3⟩
def flagD (d : Dv) (e : Nat) (b : Bool) : Dv × Nat × Bool :=
  ((numD d e (if b then 1 else 0) 1 0).1, (numD d e (if b then 1 else 0) 1 0).2.1, (numD d e (if b then 1 else 0) 1 0).2.2 == 1)
theorem c73 {cs : Array Value} {t : TypeId} {o : Nat} {b : Bool} (h : St U M jc jd d e (k + 1)) (a : M.nb[jt]? = some (.cells cs t)) (hf : M.floor ≤ jt) (n1 : jt ≠ jd) (n2 : jt ≠ jc) (n3 : ¬ U jt) (hv : cs[o]? = some (.bool b)) :
    Cn Try.prog 73 #[PtrB jc, .pointer (some ⟨2 * jt, o, none⟩)] M fun u N => u = .tuple #[] ∧ ∃ U', Ext (fun i => i = jc ∨ i = jd ∨ i = jt) U M U' N ∧ St U' N jc jd (flagD d e b).1 (flagD d e b).2.1 k ∧ N.nb[jt]? = some (.cells (cs.setIfInBounds o (.bool (flagD d e b).2.2)) t) ∧ ¬ U' jt := by
  have hjt := lt_of_at a
  have ho := (Array.getElem?_eq_some_iff.1 hv).1
  have hjd := h.dev.lt
  have hjc := lt_of_at h.cod
  have q0 := Mem.new_at M (.cells #[.int .i64 0] 3)
  have K0 : Keep M (M.new (.cells #[.int .i64 0] 3)) := .new _ _
  have s0 := Mem.new_size M (.cells #[.int .i64 0] 3)
  refine w73_0 ?_
  generalize M.new (.cells #[.int .i64 0] 3) = M0 at q0 K0 s0 ⊢
  have f0 : M0.floor ≤ M.nb.size := by rw [K0.floor]; exact h.fs
  obtain ⟨M1, p1, C1, s1, u1⟩ := put1 0 (.int .i64 0) q0 f0 (by simp) rfl
  have K1 : Keep M M1 := Keep.step K0 C1 fun i hi => by omega
  have a1 := at_keep a K1
  have nj : ∀ {i}, i < M.nb.size → i ≠ M.nb.size := fun h => by omega
  have nU : ¬ U M.nb.size := fun hu => by have := h.ub _ hu; omega
  have go : ∀ {N : Mem} (x : Int), Keep M N → N.nb[M.nb.size]? = some (.cells #[.int .i64 x] 3) → x = (if b then 1 else 0) →
      Cn Try.prog 74 #[PtrB jc, .pointer (some ⟨2 * M.nb.size, 0, none⟩), .int .i64 1, .int .i64 0] N fun _ N5 => onS (N5.intAt .i64 (2 * M.nb.size) 0) fun x6 => adS (some (⟨2 * jt, o, none⟩ : Addr)) fun a7 => ptS (N5.put a7.block a7.off (.bool (x6 == 1))) fun M8 =>
        (Value.tuple #[] = .tuple #[] ∧ ∃ U', Ext (fun i => i = jc ∨ i = jd ∨ i = jt) U M U' M8 ∧ St U' M8 jc jd (flagD d e b).1 (flagD d e b).2.1 k ∧ M8.nb[jt]? = some (.cells (cs.setIfInBounds o (.bool (flagD d e b).2.2)) t) ∧ ¬ U' jt) := by
    intro N x K u hx
    have hN := h.keep K
    refine Cn.mono (c74 hN u (by rw [K.floor]; exact h.fs) (by omega) (by omega) nU (v := x) rfl (by decide) (by decide)) ?_
    rintro _ N5 ⟨_, U', E, S, u5, nu5⟩
    have at5 := E.at (at_keep a K) n3 fun hh => by omega
    obtain ⟨N6, p6, C6, s6, u6⟩ := put1 o (.bool ((numD d e x 1 0).2.2 == 1)) at5.1 (by rw [E.chg.floor, K.floor]; exact hf) ho rfl
    refine on (int_of u5 rfl) (ad rfl (pt p6 ⟨rfl, U', ⟨fun i hi => ?_, ?_⟩, ?_, ?_, at5.2⟩))
    · exact (E.sub i hi).imp id fun q => Nat.le_trans K.size q
    · refine (Chg.trans (S := fun i => U i ∨ i = jc ∨ i = jd ∨ i = jt) (M2 := N5) ⟨E.chg.base.trans K.base, E.chg.floor.trans K.floor, Nat.le_trans K.size E.chg.size, fun j hj hs => ?_⟩ (C6.mono fun i hi hs => .inr (.inr (.inr hs))))
      exact (E.chg.same j (Nat.lt_of_lt_of_le hj K.size) fun hh => hh.elim (fun q => hs (.inl q)) fun q => q.elim (fun q => hs (.inr (.inl q))) fun q => q.elim (fun q => hs (.inr (.inr (.inl q)))) fun q => by omega).trans (K.same j hj fun x => x)
    · subst hx
      exact S.chg C6 fun i _ hu hh => by
        subst hh
        rcases hu with hu | hu | hu
        · exact at5.2 hu
        · exact n1 hu
        · exact n2 hu
    · subst hx; exact u6
  refine pt p1 (ad rfl (on (bool_of a1 hv) (cn (fun hb => ?_) fun hb => ?_)))
  · obtain ⟨M2, p2, C2, s2, u2⟩ := put1 0 (.int .i64 1) u1 (by rw [C1.floor]; exact f0) (by simp) rfl
    exact pt p2 (go 1 (Keep.step K1 C2 fun i hi => by omega) u2 (by rw [hb]; rfl))
  · exact go 0 K1 u1 (by rw [hb]; rfl)
end
end Go.Zt
