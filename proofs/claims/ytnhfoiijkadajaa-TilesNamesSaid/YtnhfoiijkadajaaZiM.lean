/- Layer 21: lists of bytes; Same c25, Body c22 c23. -/
import Derived.Test.YtnhfoiijkadajaaZiL
set_option linter.unusedSimpArgs false
set_option linter.unusedVariables false
namespace Go.Zu
open Go Go.Sim Go.Proofs Go.RowKit
structure Bs where
  b : List Nat
  A : Option Addr
  c : Nat
abbrev Bs.cells (o : Bs) : List Value := [.slice o.A o.b.length o.c]
abbrev Bss (l : List Bs) : List Value := l.flatMap Bs.cells
theorem el45 : ElemS Try.prog 45 46 1 24 (.slice none 0 0) := ⟨by kernel_rfl, by kernel_rfl, rfl, by decide, by decide⟩
theorem Bss_one (l : List Bs) : (Bss l).all oneCell = true := by
  rw [List.all_eq_true]
  intro v hv
  obtain ⟨d, _, hd⟩ := List.mem_flatMap.1 hv
  simp at hd
  rcases hd with rfl; rfl
theorem Bss_len (l : List Bs) : (Bss l).length = l.length * 1 := flat_len (f := Bs.cells) (s := 1) (fun _ => rfl) l
def BsR (M : Mem) (A : Option Addr) (l : List Bs) : Prop := Row M A (Bss l) ∧ ∀ o ∈ l, Row M o.A (U8 o.b)
theorem BsR.chg {M N : Mem} {A : Option Addr} {l : List Bs} (h : BsR M A l) (K : Keep M N) : BsR N A l := ⟨h.1.keep K, fun o ho => (h.2 o ho).keep K⟩
theorem BsR.at {M : Mem} {A : Option Addr} {l : List Bs} (h : BsR M A l) {n i : Nat} {z : Int} (hz : z = (i : Int)) (hn : i < n) (hi : i < l.length) :
    ∃ a, idxA A n 1 z = some a ∧ M.slAt a.block a.off = some (l[i].A, l[i].b.length, l[i].c) := by
  obtain ⟨a, h1, h2⟩ := Row.flat (f := Bs.cells) (s := 1) (fun _ => rfl) h.1 (by decide) hz hn hi
  refine ⟨a, h1, ?_⟩
  have := h2 0 (by decide)
  simp only [Nat.add_zero] at this
  simp only [Mem.slAt, this]; rfl
def Bl (b0 : Nat) (M : Mem) (A : Option Addr) (c : Nat) (l : List Bs) : Prop :=
  ∃ D : Nat → Prop, (∀ i, D i → b0 ≤ i ∧ i < M.nb.size) ∧ Own D M 46 A (c * 1) (Bss l) ∧ ∀ o ∈ l, Own (fun i => b0 ≤ i ∧ i < M.nb.size ∧ ¬ D i) M 5 o.A o.c (U8 o.b)
theorem Bl.nil {b0 : Nat} {M : Mem} : Bl b0 M none 0 [] := ⟨fun _ => False, fun i h => h.elim, Own.empty, fun o h => (by cases h)⟩
theorem Bl.chg {b0 : Nat} {M N : Mem} {A : Option Addr} {c : Nat} {l : List Bs} (h : Bl b0 M A c l) {T : Nat → Prop} (K : Chg T M N) (hT : ∀ i, b0 ≤ i → i < M.nb.size → ¬ T i) : Bl b0 N A c l := by
  obtain ⟨D, h1, h2, h3⟩ := h
  exact ⟨D, fun i hi => ⟨(h1 i hi).1, Nat.lt_of_lt_of_le (h1 i hi).2 K.size⟩, h2.chg K fun i hi hs => hT i (h1 i hs).1 hi, fun o ho => ((h3 o ho).chg K fun i hi hs => hT i hs.1 hi).mono fun i _ hs => ⟨hs.1, Nat.lt_of_lt_of_le hs.2.1 K.size, hs.2.2⟩⟩
theorem Bl.keep {b0 : Nat} {M N : Mem} {A : Option Addr} {c : Nat} {l : List Bs} (h : Bl b0 M A c l) (K : Keep M N) : Bl b0 N A c l := h.chg K fun _ _ _ x => x
theorem Bl.rd {b0 : Nat} {M : Mem} {A : Option Addr} {c : Nat} {l : List Bs} (h : Bl b0 M A c l) : BsR M A l := by
  obtain ⟨D, h1, h2, h3⟩ := h
  exact ⟨h2.row, fun o ho => (h3 o ho).row⟩
theorem Bl.push {b0 : Nat} {M0 M : Mem} {A : Option Addr} {c : Nat} {l : List Bs} (h : Bl b0 M0 A c l) (K : Keep M0 M) (hf : M0.floor ≤ b0) (hb0 : b0 ≤ M0.nb.size) {o : Bs} (ho : Own (fun i => M0.nb.size ≤ i) M 5 o.A o.c (U8 o.b)) (hl : l.length ≤ 2199023255552) :
    ∃ A' c' N, appendP Try.prog #[45, 45] (.slice A l.length c) (.slice (some ⟨2 * M.nb.size, 0, none⟩) 1 1) (M.new (.cells #[.slice o.A o.b.length o.c] 46)) = some (.slice A' (l.length + 1) c', N) ∧ Chg (fun i => b0 ≤ i) M0 N ∧ Bl b0 N A' c' (l ++ [o]) ∧ Chg (fun i => (b0 ≤ i ∧ i < M0.nb.size) ∨ M.nb.size ≤ i) M N := by
  obtain ⟨D, h1, h2, h3⟩ := h
  have hK := K.size
  have hN0 : Chg (fun _ => False) M (M.new (.cells #[.slice o.A o.b.length o.c] 46)) := .new _ _
  have hO : Own (fun i => D i ∨ M.nb.size ≤ i) (M.new (.cells #[.slice o.A o.b.length o.c] 46)) 46 A (c * 1) (Bss l) :=
    (((h2.chg K fun _ _ _ x => x).mono fun i _ hi => .inl hi)).chg hN0 fun _ _ _ x => x
  have hS : ∀ i, D i ∨ M.nb.size ≤ i → M.floor ≤ i := by
    intro i hi
    rw [K.floor]
    rcases hi with hi | hi
    · have := h1 i hi; omega
    · omega
  obtain ⟨A', c', N, g1, g2, g3, g4⟩ := append_own el45 hO (n := l.length) (Bss_len l) (Row.new M 46 (Bss [o])) (k := 1) (cx := 1) (by simp) (Bss_one [o]) hS (.inr (by rw [Mem.new_size]; omega)) (by omega)
  have hC : Chg (fun i => D i ∨ M.nb.size ≤ i) M N := (Chg.new M _).trans g2
  have hsz := hC.size
  have hall : Chg (fun i => b0 ≤ i) M0 N := (K.mono fun i _ x => x.elim).trans (hC.mono fun i _ hi => by
    rcases hi with hi | hi
    · exact (h1 i hi).1
    · omega)
  refine ⟨A', c', N, g1, hall, ⟨fun i => (D i ∨ M.nb.size ≤ i) ∧ i < N.nb.size, fun i hi => ⟨?_, hi.2⟩, ?_, fun q hq => ?_⟩, hC.mono fun i _ hi => hi.imp (h1 i) id⟩
  · rcases hi.1 with h | h
    · exact (h1 i h).1
    · omega
  · have e : Bss (l ++ [o]) = Bss l ++ Bss [o] := List.flatMap_append
    rw [e]
    exact g3.mono fun i hi hs => ⟨hs, hi⟩
  · rcases List.mem_append.1 hq with hq | hq
    · refine (((h3 q hq).chg K fun _ _ _ x => x).chg hC fun i hi hs ht => ?_).mono fun i hi hs => ⟨hs.1, hi, fun hh => ?_⟩
      · rcases ht with ht | ht
        · exact hs.2.2 ht
        · omega
      · rcases hh.1 with hh | hh
        · exact hs.2.2 hh
        · omega
    · obtain rfl := List.mem_singleton.1 hq
      have ho' : Own (fun i => M0.nb.size ≤ i ∧ i < M.nb.size) M 5 q.A q.c (U8 q.b) := ho.mono fun i hi hs => ⟨hs, hi⟩
      refine (ho'.chg hC fun i hi hs ht => ?_).mono fun i hi hs => ⟨by omega, hi, fun hh => ?_⟩
      · rcases ht with ht | ht
        · have := h1 i ht; omega
        · omega
      · rcases hh.1 with hh | hh
        · have := h1 i hh; omega
        · omega
theorem c25_loop {M : Mem} {A B : Option Addr} {l l' : List Bs} (hA : BsR M A l) (hB : BsR M B l') {n m c d : Nat} (hn : n = l.length) (hm : m = l'.length) (he : l.map Bs.b = l'.map Bs.b) (hb : n ≤ 4611686018427387904) (hbb : ∀ o ∈ l, o.b.length ≤ 4611686018427387904) :
    ∀ (k i : Nat), i + k = n → A25_1 A n c B m d i M fun v N => v = .bool true ∧ N = M := by
  have hl : l.length = l'.length := by have := congrArg List.length he; simpa using this
  intro k
  induction k with
  | zero => intro i hi; exact w25_1 ⟨fun h => by omega, fun _ => ⟨rfl, rfl⟩⟩
  | succ k ih =>
    intro i hi
    have h1 : i < l.length := by omega
    have h2 : i < l'.length := by omega
    obtain ⟨a, i1, i2⟩ := hA.at (n := n) (i := i) (z := i) rfl (by omega) h1
    obtain ⟨b, j1, j2⟩ := hB.at (n := m) (i := i) (z := i) rfl (by omega) h2
    have eb : l[i].b = l'[i].b := by
      have e1 : (l.map Bs.b)[i]? = (l'.map Bs.b)[i]? := by rw [he]
      simpa [h1, h2] using e1
    refine w25_1 ⟨fun _ => ⟨_, i1, _, i2, _, j1, _, j2, Cn.eq (c24 (hA.2 _ (List.getElem_mem h1)) (hB.2 _ (List.getElem_mem h2)) rfl rfl (hbb _ (List.getElem_mem h1))) ⟨_, rfl, fun h => ?_, fun _ => ?_⟩⟩, fun h => by omega⟩
    · simp [eb] at h
    · rw [i64w (by omega), show ((i : Int) + 1) = ((i + 1 : Nat) : Int) by omega]
      exact ih (i + 1) (by omega)
theorem c25 {M : Mem} {A B : Option Addr} {l l' : List Bs} (hA : BsR M A l) (hB : BsR M B l') {n m c d : Nat} (hn : n = l.length) (hm : m = l'.length) (he : l.map Bs.b = l'.map Bs.b) (hb : n ≤ 4611686018427387904) (hbb : ∀ o ∈ l, o.b.length ≤ 4611686018427387904) :
    Cn Try.prog 25 #[.slice A n c, .slice B m d] M fun v N => v = .bool true ∧ N = M := by
  have hl : l.length = l'.length := by have := congrArg List.length he; simpa using this
  exact w25_0 ⟨fun h => absurd (by omega) h, fun _ => c25_loop hA hB hn hm he hb hbb n 0 (Nat.zero_add _)⟩
def lbs (v : Nat) : List Nat := pack (lebB 5 v)
def joinB : List Nat → List (List Nat) → List Nat
  | acc, [] => acc
  | acc, b :: r => joinB (acc ++ lbs b.length ++ b) r
def bodyS (l : List (List Nat)) : List Nat × Nat := if 16 < l.length then ([], 7) else (joinB [] l, 0)
def BdR (M0 : Mem) (s : List Nat × Nat) : Value → Mem → Prop := fun v N =>
  ∃ A c, v = .tuple #[.slice A s.1.length c, .int .i64 (s.2 : Nat)] ∧ Keep M0 N ∧ Own (fun i => M0.nb.size ≤ i) N 5 A c (U8 s.1)
theorem app_u8 {M0 M : Mem} (hf : M0.floor ≤ M0.nb.size) (K : Keep M0 M) {A X : Option Addr} {c cx n k : Nat} {o b : List Nat} (hO : Own (fun i => M0.nb.size ≤ i) M 5 A c (U8 o)) (hX : Row M X (U8 b)) (hn : n = o.length) (hk : k = b.length) (hs : o.length + b.length ≤ 140737488355328) :
    ∃ A' c' N, appendP Try.prog #[46, 46] (.slice A n c) (.slice X k cx) M = some (.slice A' (n + k) c', N) ∧ Keep M0 N ∧ Own (fun i => M0.nb.size ≤ i) N 5 A' c' (U8 (o ++ b)) := by
  obtain ⟨A', c', N, g1, g2, g3, g4⟩ := append_own el5 (c := c) (by rw [Nat.mul_one]; exact hO) (n := n) (by simp [hn]) hX (k := k) (cx := cx) (by simp [hk]) (u8_one b) (fun i hi => by rw [K.floor]; exact Nat.le_trans hf hi) K.size (by omega)
  refine ⟨A', c', N, g1, Keep.step K g2 fun i hi => hi, ?_⟩
  rw [Nat.mul_one] at g3
  simpa using g3
theorem Wr.mono {S T : Nat → Prop} {M : Mem} {j : Nat} {w : List Nat} (h : Wr S M j w) (hj : ¬ T j) (hT : ∀ i, i < M.nb.size → S i → T i) : Wr T M j w := by
  obtain ⟨A, c, h1, h2, h3⟩ := h.ex
  exact ⟨hj, h.bin, h.len, A, c, h1, h2.mono hT, h3⟩
theorem Wf.mono {S T : Nat → Prop} {M : Mem} {j : Nat} {w : List Nat} (h : Wf S M j w) (hj : ¬ T j) (hT : ∀ i, i < M.nb.size → S i → T i) : Wf T M j w := by
  obtain ⟨A, c, h1, h2, h3⟩ := h.ex
  exact ⟨hj, h.bin, h.len, A, c, h1, h2.mono hT, h3⟩
theorem lebB_len : ∀ k v, (lebB k v).length ≤ 8 * k
  | 0, _ => by simp [lebB]
  | k + 1, v => by
    have := lebB_len k (v / 128)
    unfold lebB
    split
    · rw [List.length_append, bitsN_len]; omega
    · rw [bitsN_len]; omega
theorem lbs_len (v : Nat) : (lbs v).length ≤ 5 := by
  have := lebB_len 5 v
  unfold lbs; rw [pack_len]; omega
theorem joinB_len : ∀ (l : List (List Nat)) (acc : List Nat) (B : Nat), (∀ b ∈ l, b.length ≤ B) → (joinB acc l).length ≤ acc.length + l.length * (B + 5)
  | [], acc, B, _ => by simp [joinB]
  | b :: r, acc, B, h => by
    have h1 := joinB_len r (acc ++ lbs b.length ++ b) B fun x hx => h x (List.mem_cons_of_mem _ hx)
    have h2 := h b (List.mem_cons_self ..)
    have h3 := lbs_len b.length
    unfold joinB
    simp only [List.length_append, List.length_cons, Nat.add_mul, Nat.one_mul] at h1 ⊢
    omega
section
variable {M0 : Mem} {A : Option Addr} {n c : Nat} {l : List Bs}
theorem c22_loop (hf : M0.floor ≤ M0.nb.size) (hA : BsR M0 A l) (hn : n = l.length) (hb : n ≤ 16) (hbb : ∀ o ∈ l, o.b.length ≤ 1048576) :
    ∀ (k i : Nat) (o : List Nat) (Ao : Option Addr) (co : Nat) {M : Mem}, i + k = l.length → Keep M0 M → Own (fun i => M0.nb.size ≤ i) M 5 Ao co (U8 o) → o.length ≤ i * 1048600 →
      A22_1 Ao o.length co A n c (n : Nat) i M (BdR M0 (joinB o ((l.drop i).map Bs.b), 0)) := by
  intro k
  induction k with
  | zero =>
    intro i o Ao co M hi K hO hol
    rw [List.drop_of_length_le (by omega)]
    exact w22_1 ⟨fun h => by omega, fun _ => ⟨Ao, co, rfl, K, hO⟩⟩
  | succ k ih =>
    intro i o Ao co M hi K hO hol
    have hil : i < l.length := by omega
    rw [List.drop_eq_getElem_cons hil, List.map_cons]
    obtain ⟨a, i1, i2⟩ := (hA.chg K).at (n := n) (z := i) rfl (by omega) hil
    have hlen := hbb _ (List.getElem_mem hil)
    have hms := K.size
    refine w22_1 ⟨fun _ => ⟨_, i1, _, i2, Cn.mono c36 ?_⟩, fun h => by omega⟩
    rintro v N ⟨rfl, K3, hs3, hW⟩
    have KN := K.trans K3
    have hW' : Wr (fun i => N.nb.size ≤ i) N M.nb.size [] := hW.mono (by omega) fun i _ h => h.elim
    have hFl : Fl (fun i => N.nb.size ≤ i) N M.nb.size := ⟨fun i hi => by
      rw [KN.floor]
      rcases hi with hi | rfl <;> omega, fun i hi => hi⟩
    have el : IntKind.u32.wrap ((l[i].b.length : Nat) : Int) = ((l[i].b.length : Nat) : Int) := u32w (by omega)
    refine ⟨_, rfl, ?_⟩
    show Cn Try.prog 37 #[_, .int .u32 (IntKind.u32.wrap ((l[i].b.length : Nat) : Int))] N _
    rw [el]
    refine Cn.mono (c37 hFl hW' (v := l[i].b.length) rfl (by omega) (by simp)) ?_
    have eb : wLeb [] l[i].b.length = (0, lebB 5 l[i].b.length) := by unfold wLeb; rw [if_neg (by decide)]; rfl
    rw [eb]
    rintro v3 N3 ⟨rfl, C3, hW3⟩
    have K3' : Keep M0 N3 := Keep.step KN C3 fun i hi => by omega
    refine ⟨_, rfl, fun h => absurd rfl h, fun _ => Cn.mono (c38 hW3 (by rw [K3'.floor]; exact Nat.le_trans hf K3'.size)) ?_⟩
    rintro v4 N4 ⟨A4, c4, rfl, K4, hO4, hc4⟩
    have K4' := K3'.trans K4
    have hO' : Own (fun i => M0.nb.size ≤ i ∧ i < M.nb.size) M 5 Ao co (U8 o) := hO.mono fun i hi h => ⟨h, hi⟩
    have hO3 : Own (fun i => M0.nb.size ≤ i ∧ i < M.nb.size) N4 5 Ao co (U8 o) := (((hO'.chg K3 fun _ _ _ x => x).chg C3 fun i _ hs ht => by omega).chg K4 fun _ _ _ x => x)
    have hpl := lbs_len l[i].b.length
    obtain ⟨A5, c5, N5, q1, K5, O5⟩ := app_u8 hf K4' (hO3.mono fun i _ hs => hs.1) (X := A4) (cx := c4) (k := (lbs l[i].b.length).length) (b := lbs l[i].b.length) hO4.row (n := o.length) rfl rfl (by omega)
    obtain ⟨A6, c6, N6, q2, K6, O6⟩ := app_u8 hf K5 O5 (X := l[i].A) (cx := l[i].c) (k := l[i].b.length) ((hA.chg K5).2 _ (List.getElem_mem hil)) (n := o.length + (lbs l[i].b.length).length) (by simp) rfl (by simp; omega)
    refine ⟨_, rfl, _, q1, _, rfl, _, q2, _, rfl, ?_⟩
    rw [i64w (by omega), show ((i : Int) + 1) = ((i + 1 : Nat) : Int) by omega]
    have hr := ih (i + 1) (o ++ lbs l[i].b.length ++ l[i].b) A6 c6 (M := N6) (by omega) K6 O6 (by simp; omega)
    rw [List.length_append, List.length_append] at hr
    exact hr
theorem c22 (hf : M0.floor ≤ M0.nb.size) (hA : BsR M0 A l) (hn : n = l.length) (hbb : ∀ o ∈ l, o.b.length ≤ 1048576) : Cn Try.prog 22 #[.slice A n c] M0 (BdR M0 (bodyS (l.map Bs.b))) := by
  unfold bodyS
  rw [List.length_map]
  refine w22_0 ⟨fun h => ?_, fun h => ?_⟩
  · rw [if_pos (by omega)]; exact ⟨none, 0, rfl, .refl _, Own.empty⟩
  · rw [if_neg (by omega)]
    have := c22_loop (c := c) hf hA hn (by omega) hbb n 0 [] none 0 (M := M0) (by omega) (.refl _) Own.empty (Nat.zero_le _)
    rw [List.drop_zero] at this
    exact this
theorem c23_loop (hf : M0.floor ≤ M0.nb.size) (hA : BsR M0 A l) (hn : n = l.length) (hb : n ≤ 16) (hbb : ∀ o ∈ l, o.b.length ≤ 1048576) :
    ∀ (k i : Nat) (o : List Nat) (Ao : Option Addr) (co : Nat) {M : Mem}, i + k = l.length → Keep M0 M → Own (fun i => M0.nb.size ≤ i) M 5 Ao co (U8 o) → o.length ≤ i * 1048600 →
      A23_1 A n c Ao o.length co i M (BdR M0 (joinB o ((l.drop i).map Bs.b), 0)) := by
  intro k
  induction k with
  | zero =>
    intro i o Ao co M hi K hO hol
    rw [List.drop_of_length_le (by omega)]
    exact w23_1 ⟨fun h => by omega, fun _ => ⟨Ao, co, rfl, K, hO⟩⟩
  | succ k ih =>
    intro i o Ao co M hi K hO hol
    have hil : i < l.length := by omega
    rw [List.drop_eq_getElem_cons hil, List.map_cons]
    have rd : ∀ {N : Mem}, Keep M0 N → ∃ a, idxA A n 1 (i : Nat) = some a ∧ N.slAt a.block a.off = some (l[i].A, l[i].b.length, l[i].c) := fun hK => (hA.chg hK).at (n := n) (z := i) rfl (by omega) hil
    have hlen := hbb _ (List.getElem_mem hil)
    have hms := K.size
    refine w23_1 ⟨fun _ => Cn.mono c39 ?_, fun h => by omega⟩
    rintro v N ⟨rfl, K3, hs3, hW⟩
    have KN := K.trans K3
    obtain ⟨a, i1, i2⟩ := rd KN
    have hW' : Wf (fun i => N.nb.size ≤ i) N M.nb.size [] := hW.mono (by omega) fun i _ h => h.elim
    have hFl : Fl (fun i => N.nb.size ≤ i) N M.nb.size := ⟨fun i hi => by
      rw [KN.floor]
      rcases hi with hi | rfl <;> omega, fun i hi => hi⟩
    have el : IntKind.u32.wrap ((l[i].b.length : Nat) : Int) = ((l[i].b.length : Nat) : Int) := u32w (by omega)
    refine ⟨_, rfl, _, i1, _, i2, ?_⟩
    show Cn Try.prog 40 #[_, .int .u32 (IntKind.u32.wrap ((l[i].b.length : Nat) : Int))] N _
    rw [el]
    refine Cn.mono (c40 hFl hW' (v := l[i].b.length) rfl (by omega) (by simp)) ?_
    have eb : wLeb [] l[i].b.length = (0, lebB 5 l[i].b.length) := by unfold wLeb; rw [if_neg (by decide)]; rfl
    rw [eb]
    rintro v3 N3 ⟨rfl, C3, hW3⟩
    have K3' : Keep M0 N3 := Keep.step KN C3 fun i hi => by omega
    refine ⟨_, rfl, Cn.mono (c41 hW3 (by rw [K3'.floor]; exact Nat.le_trans hf K3'.size)) ?_⟩
    rintro v4 N4 ⟨A4, c4, rfl, K4, hO4⟩
    have K4' := K3'.trans K4
    have hO' : Own (fun i => M0.nb.size ≤ i ∧ i < M.nb.size) M 5 Ao co (U8 o) := hO.mono fun i hi h => ⟨h, hi⟩
    have hO3 : Own (fun i => M0.nb.size ≤ i ∧ i < M.nb.size) N4 5 Ao co (U8 o) := (((hO'.chg K3 fun _ _ _ x => x).chg C3 fun i _ hs ht => by omega).chg K4 fun _ _ _ x => x)
    have hpl := lbs_len l[i].b.length
    obtain ⟨A5, c5, N5, q1, K5, O5⟩ := app_u8 hf K4' (hO3.mono fun i _ hs => hs.1) (X := A4) (cx := c4) (k := (lbs l[i].b.length).length) (b := lbs l[i].b.length) hO4.row (n := o.length) rfl rfl (by omega)
    obtain ⟨a', i3, i4⟩ := rd K5
    obtain ⟨A6, c6, N6, q2, K6, O6⟩ := app_u8 hf K5 O5 (X := l[i].A) (cx := l[i].c) (k := l[i].b.length) ((hA.chg K5).2 _ (List.getElem_mem hil)) (n := o.length + (lbs l[i].b.length).length) (by simp) rfl (by simp; omega)
    refine ⟨_, rfl, _, q1, _, rfl, _, i3, _, i4, _, q2, _, rfl, ?_⟩
    rw [i64w (by omega), show ((i : Int) + 1) = ((i + 1 : Nat) : Int) by omega]
    have hr := ih (i + 1) (o ++ lbs l[i].b.length ++ l[i].b) A6 c6 (M := N6) (by omega) K6 O6 (by simp; omega)
    rw [List.length_append, List.length_append] at hr
    exact hr
theorem c23 (hf : M0.floor ≤ M0.nb.size) (hA : BsR M0 A l) (hn : n = l.length) (hbb : ∀ o ∈ l, o.b.length ≤ 1048576) : Cn Try.prog 23 #[.slice A n c] M0 (BdR M0 (bodyS (l.map Bs.b))) := by
  unfold bodyS
  rw [List.length_map]
  refine w23_0 ⟨fun h => ?_, fun h => ?_⟩
  · rw [if_pos (by omega)]; exact ⟨none, 0, rfl, .refl _, Own.empty⟩
  · rw [if_neg (by omega)]
    have := c23_loop (c := c) hf hA hn (by omega) hbb n 0 [] none 0 (M := M0) (by omega) (.refl _) Own.empty (Nat.zero_le _)
    rw [List.drop_zero] at this
    exact this
end
end Go.Zu
