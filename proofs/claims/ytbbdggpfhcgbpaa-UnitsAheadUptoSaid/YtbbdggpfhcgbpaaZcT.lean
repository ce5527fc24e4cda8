/- Layer 19: Join of the program and of the document. -/
import Derived.Test.YtbbdggpfhcgbpaaZcS
set_option linter.unusedSimpArgs false
set_option linter.unusedVariables false
namespace Go.Zt
open Go Go.Sim Go.Proofs Go.RowKit

def joinS : List Nat → List (Int × List Nat) → List Nat × Nat
  | acc, [] => (acc, 0)
  | acc, x :: r => if ¬ (1 ≤ x.1 ∧ x.1 ≤ 3) then ([], 2) else if x.2.length > 16777216 then ([], 5)
    else joinS (acc ++ ((16 * x.1).toNat :: pack (lebB 5 x.2.length)) ++ x.2) r
def JnR (M0 : Mem) (s : List Nat × Nat) : Value → Mem → Prop := fun v N =>
  ∃ A c, v = .tuple #[.slice A s.1.length c, .int .i64 (s.2 : Nat)] ∧ Keep M0 N ∧ Own (fun i => M0.nb.size ≤ i) N 5 A c (U8 s.1)
theorem app_u8 {M0 M : Mem} (hf : M0.floor ≤ M0.nb.size) (K : Keep M0 M) {A X : Option Addr} {c cx n k : Nat} {o b : List Nat} (hO : Own (fun i => M0.nb.size ≤ i) M 5 A c (U8 o)) (hX : Row M X (U8 b)) (hn : n = o.length) (hk : k = b.length) (hs : o.length + b.length ≤ 140737488355328) :
    ∃ A' c' N, appendP Try.prog #[22, 22] (.slice A n c) (.slice X k cx) M = some (.slice A' (n + k) c', N) ∧ Keep M0 N ∧ Own (fun i => M0.nb.size ≤ i) N 5 A' c' (U8 (o ++ b)) := by
  obtain ⟨A', c', N, g1, g2, g3, g4⟩ := append_own el5 (c := c) (by rw [Nat.mul_one]; exact hO) (n := n) (by simp [hn]) hX (k := k) (cx := cx) (by simp [hk]) (u8_one b) (fun i hi => by rw [K.floor]; exact Nat.le_trans hf hi) K.size (by omega)
  refine ⟨A', c', N, g1, Keep.step K g2 fun i hi => hi, ?_⟩
  rw [Nat.mul_one] at g3
  simpa using g3
theorem Wr.fl {S : Nat → Prop} {M : Mem} {j f : Nat} {w : List Nat} (h : Wr S M j w) : Wr S { M with floor := f } j w := ⟨h.out, h.bin, h.len, h.ex⟩
theorem Wr.mono {S T : Nat → Prop} {M : Mem} {j : Nat} {w : List Nat} (h : Wr S M j w) (hj : ¬ T j) (hT : ∀ i, i < M.nb.size → S i → T i) : Wr T M j w := by
  obtain ⟨A, c, h1, h2, h3⟩ := h.ex
  exact ⟨hj, h.bin, h.len, A, c, h1, h2.mono hT, h3⟩
theorem Wf.mono {S T : Nat → Prop} {M : Mem} {j : Nat} {w : List Nat} (h : Wf S M j w) (hj : ¬ T j) (hT : ∀ i, i < M.nb.size → S i → T i) : Wf T M j w := by
  obtain ⟨A, c, h1, h2, h3⟩ := h.ex
  exact ⟨hj, h.bin, h.len, A, c, h1, h2.mono hT, h3⟩
theorem lebB_len : ∀ k v, (lebB k v).length ≤ 8 * k
  | 0, _ => by simp [lebB]
  | k + 1, v => by
    have := lebB_len k (v / 128)
    unfold lebB
    split
    · rw [List.length_append, bitsN_len]; omega
    · rw [bitsN_len]; omega
section
variable {M0 : Mem} {A : Option Addr} {n c : Nat} {l : List Ob}
theorem c18_loop (hf : M0.floor ≤ M0.nb.size) (hA : ObR M0 A l) (hn : n = l.length) (hb : n ≤ 2097152) :
    ∀ (k i : Nat) (o : List Nat) (Ao : Option Addr) (co : Nat) {M : Mem}, i + k = l.length → Keep M0 M → Own (fun i => M0.nb.size ≤ i) M 5 Ao co (U8 o) → o.length ≤ i * 16777300 →
      A18_1 Ao o.length co A n c n i M (JnR M0 (joinS o ((l.drop i).map Ob.pc)))
  | 0, i, o, Ao, co, M, hi, K, hO, hol => by
    rw [List.drop_of_length_le (by omega)]
    exact w18_1 ⟨fun h => by omega, fun _ => ⟨Ao, co, rfl, K, hO⟩⟩
  | k + 1, i, o, Ao, co, M, hi, K, hO, hol => by
    have hil : i < l.length := by omega
    rw [List.drop_eq_getElem_cons hil, List.map_cons]
    obtain ⟨a, i1, i2, i3⟩ := (hA.chg K).at (n := n) (z := i) rfl (by omega) hil
    have hfM : M.floor ≤ M.nb.size := by rw [K.floor]; exact Nat.le_trans hf K.size
    obtain ⟨M1, p1, M2, p2, K2, a2⟩ := fill2 (M := M) (k := l[i].k) (k0 := 0) (A0 := none) (A := l[i].A) (n0 := 0) (c0 := 0) (n := l[i].b.length) (c := l[i].c) hfM
    have KM2 := K.trans K2
    have hnil : ∀ N, Keep M0 N → ∀ (e : Nat) (z : Int), z = (e : Int) → joinS o (l[i].pc :: (l.drop (i + 1)).map Ob.pc) = ([], e) → JnR M0 (joinS o (l[i].pc :: (l.drop (i + 1)).map Ob.pc)) (.tuple #[.slice none 0 0, .int .i64 z]) N := fun N hK e z hz hj => by
      rw [hj, hz]; exact ⟨none, 0, rfl, hK, Own.empty⟩
    refine w18_1 ⟨fun _ => ⟨_, i1, _, i2, _, i3, _, p1, _, p2, _, int_of a2 rfl, Cn.eq c29 ⟨_, rfl, fun hk => ?_, fun hk => ⟨_, sl_of a2 rfl, fun hlong => ?_, fun hlong => ?_⟩⟩⟩, fun h => by omega⟩
    · refine hnil _ KM2 2 2 rfl ?_
      rw [joinS, if_pos (by show ¬ (1 ≤ l[i].k ∧ l[i].k ≤ 3); simp at hk; omega)]
    · refine hnil _ KM2 5 5 rfl ?_
      have hk' : 1 ≤ l[i].k ∧ l[i].k ≤ 3 := by simpa using hk
      rw [joinS, if_neg (by simpa [Ob.pc] using hk'), if_pos (by have : ((l[i].b.length : Nat) : Int) > 16777216 := hlong; show l[i].b.length > 16777216; omega)]
    have hk' : 1 ≤ l[i].k ∧ l[i].k ≤ 3 := by simpa using hk
    have hlen : l[i].b.length ≤ 16777216 := by have : ¬ ((l[i].b.length : Nat) : Int) > 16777216 := hlong; omega
    have hlt2 := lt_of_at a2
    refine Cn.mono c30 ?_
    rintro v N ⟨rfl, K3, hs3, hW⟩
    have KN := KM2.trans K3
    have aN := at_keep a2 K3
    have hW' : Wr (fun i => N.nb.size ≤ i) N M2.nb.size [] := hW.mono (by omega) fun i _ h => h.elim
    have hFl : Fl (fun i => N.nb.size ≤ i) N M2.nb.size := ⟨fun i hi => by
      have := KM2.size
      rw [KN.floor]
      rcases hi with hi | rfl
      · have := KN.size; omega
      · omega, fun i hi => hi⟩
    have ev : IntKind.u32.wrap (IntKind.i64.wrap (l[i].k * 16)) = (((16 * l[i].k).toNat : Nat) : Int) := by rw [i64w (by omega), u32w (by omega)]; omega
    refine ⟨_, rfl, _, int_of aN rfl, ?_⟩
    rw [ev]
    refine Cn.mono (c31 hFl hW' (v := (16 * l[i].k).toNat) rfl (by omega) 8 (by decide)) ?_
    have ef : wFixed [] (16 * l[i].k).toNat 8 = (0, bitsN (16 * l[i].k).toNat 8) := by unfold wFixed; rw [if_neg (by have : (2 : Nat) ^ (8 : Int).toNat = 256 := rfl; omega)]; rfl
    rw [ef]
    rintro v2 N2 ⟨rfl, C2, hW2⟩
    have aN2 := at_chg aN C2 (by omega)
    have el : IntKind.u32.wrap ((l[i].b.length : Nat) : Int) = ((l[i].b.length : Nat) : Int) := u32w (by omega)
    refine ⟨_, rfl, _, sl_of aN2 rfl, ?_⟩
    show Cn Try.prog 32 #[_, .int .u32 (IntKind.u32.wrap ((l[i].b.length : Nat) : Int))] N2 _
    rw [el]
    refine Cn.mono (c32 (hFl.chg C2) hW2 (v := l[i].b.length) rfl (by omega) (by rw [bitsN_len]; omega)) ?_
    have eb : wLeb (bitsN (16 * l[i].k).toNat 8) l[i].b.length = (0, bitsN (16 * l[i].k).toNat 8 ++ lebB 5 l[i].b.length) := by unfold wLeb; rw [if_neg (by rw [bitsN_len]; decide)]
    rw [eb]
    rintro v3 N3 ⟨rfl, C3, hW3⟩
    have aN3 := at_chg aN2 C3 (by omega)
    have K3' : Keep M0 N3 := Keep.step (Keep.step KN C2 fun i hi => by have := KM2.size; have := KN.size; omega) C3 fun i hi => by have := KM2.size; have := KN.size; omega
    refine ⟨_, rfl, fun h => absurd rfl h, fun _ => ⟨_, sl_of aN3 rfl, Cn.mono (c33 (M := { N3 with floor := N3.nb.size }) hW3.fl (Nat.le_refl _)) ?_⟩⟩
    rintro v4 N4 ⟨A4, c4, rfl, K4f, hO4, hc4⟩
    have K4 : Keep N3 { N4 with floor := N3.floor } := chg_fl K4f
    have K4' := K3'.trans K4
    have hO' : Own (fun i => M0.nb.size ≤ i ∧ i < M.nb.size) M 5 Ao co (U8 o) := hO.mono fun i hi h => ⟨h, hi⟩
    have hO3 : Own (fun i => M0.nb.size ≤ i ∧ i < M.nb.size) { N4 with floor := N3.floor } 5 Ao co (U8 o) := ((((hO'.chg K2 fun _ _ _ x => x).chg K3 fun _ _ _ x => x).chg C2 fun i _ hs ht => by have := K2.size; have := K3.size; omega).chg C3 fun i _ hs ht => by have := K2.size; have := K3.size; omega).chg K4 fun _ _ _ x => x
    have hpl : (pack (bitsN (16 * l[i].k).toNat 8 ++ lebB 5 l[i].b.length)).length ≤ 8 := by
      have := lebB_len 5 l[i].b.length
      rw [pack_len, List.length_append, bitsN_len]; omega
    refine ⟨_, rfl, fun hbad => ?_, fun _ => ?_⟩
    · rcases hO' with ⟨rfl, _, _⟩ | ⟨q, cs, sp, rfl, _, h3, _⟩
      · cases hbad
      · have hbad : some (2 * q) = some (2 * M.nb.size) := hbad
        have := Option.some.inj hbad
        omega
    obtain ⟨A5, c5, N5, q1, K5, O5⟩ := app_u8 hf K4' (hO3.mono fun i _ hs => hs.1) (X := A4) (cx := c4) (k := (pack (bitsN (16 * l[i].k).toNat 8 ++ lebB 5 l[i].b.length)).length) (b := pack (bitsN (16 * l[i].k).toNat 8 ++ lebB 5 l[i].b.length)) hO4.row (n := o.length) rfl rfl (by omega)
    obtain ⟨A6, c6, N6, q2, K6, O6⟩ := app_u8 hf K5 O5 (X := l[i].A) (cx := l[i].c) (k := l[i].b.length) ((hA.chg K5).2 _ (List.getElem_mem hil)) (n := o.length + (pack (bitsN (16 * l[i].k).toNat 8 ++ lebB 5 l[i].b.length)).length) (by simp) rfl (by simp; omega)
    refine ⟨_, q1, _, rfl, _, q2, _, rfl, ?_⟩
    rw [i64w (by omega), show ((i : Int) + 1) = ((i + 1 : Nat) : Int) by omega]
    have hr := c18_loop hf hA hn hb k (i + 1) (o ++ pack (bitsN (16 * l[i].k).toNat 8 ++ lebB 5 l[i].b.length) ++ l[i].b) A6 c6 (M := N6) (by omega) K6 O6 (by simp; omega)
    have ej : joinS o (l[i].pc :: (l.drop (i + 1)).map Ob.pc) = joinS (o ++ pack (bitsN (16 * l[i].k).toNat 8 ++ lebB 5 l[i].b.length) ++ l[i].b) ((l.drop (i + 1)).map Ob.pc) := by
      rw [joinS, if_neg (by simpa [Ob.pc] using hk'), if_neg (by show ¬ l[i].b.length > 16777216; omega), pack_cons (by omega)]; rfl
    rw [ej]
    rw [List.length_append, List.length_append] at hr
    exact hr
theorem c18 (hf : M0.floor ≤ M0.nb.size) (hA : ObR M0 A l) (hn : n = l.length) (hb : n ≤ 2097152) : Cn Try.prog 18 #[.slice A n c] M0 (JnR M0 (joinS [] (l.map Ob.pc))) :=
  w18_0 (c18_loop hf hA hn hb _ 0 [] none 0 (Nat.zero_add _) (.refl _) Own.empty (Nat.zero_le _))
theorem c34 {x : Int} {M : Mem} : Cn Try.prog 34 #[.int .i64 x] M fun v N => v = .bool (decide (1 ≤ x ∧ x ≤ 3)) ∧ N = M :=
  w34_0 ⟨fun h => ⟨by simp [h], rfl⟩, fun h1 => ⟨fun h => ⟨by simp [h], rfl⟩, fun h2 => ⟨by
    congr 1
    by_cases h3 : x = 3
    · simp [h3]
    · rw [show (x == 3) = false by simp [h3]]
      exact (decide_eq_false (by omega)).symm, rfl⟩⟩⟩
theorem c19_loop (hf : M0.floor ≤ M0.nb.size) (hA : ObR M0 A l) (hn : n = l.length) (hb : n ≤ 2097152) :
    ∀ (k i : Nat) (o : List Nat) (Ao : Option Addr) (co : Nat) {M : Mem}, i + k = l.length → Keep M0 M → Own (fun i => M0.nb.size ≤ i) M 5 Ao co (U8 o) → o.length ≤ i * 16777300 →
      A19_1 A n c Ao o.length co i M (JnR M0 (joinS o ((l.drop i).map Ob.pc)))
  | 0, i, o, Ao, co, M, hi, K, hO, hol => by
    rw [List.drop_of_length_le (by omega)]
    exact w19_1 ⟨fun h => by omega, fun _ => ⟨Ao, co, rfl, K, hO⟩⟩
  | k + 1, i, o, Ao, co, M, hi, K, hO, hol => by
    have hil : i < l.length := by omega
    rw [List.drop_eq_getElem_cons hil, List.map_cons]
    have rd : ∀ {N : Mem}, Keep M0 N → ∃ a, idxA A n 2 (i : Nat) = some a ∧ N.intAt .i64 a.block a.off = some l[i].k ∧ N.slAt a.block (a.off + 1) = some (l[i].A, l[i].b.length, l[i].c) := fun hK => (hA.chg hK).at (n := n) (z := i) rfl (by omega) hil
    have hfM : M.floor ≤ M.nb.size := by rw [K.floor]; exact Nat.le_trans hf K.size
    obtain ⟨a, i1, i2, i3⟩ := rd K
    have hnil : ∀ N, Keep M0 N → ∀ (e : Nat) (z : Int), z = (e : Int) → joinS o (l[i].pc :: (l.drop (i + 1)).map Ob.pc) = ([], e) → JnR M0 (joinS o (l[i].pc :: (l.drop (i + 1)).map Ob.pc)) (.tuple #[.slice none 0 0, .int .i64 z]) N := fun N hK e z hz hj => by
      rw [hj, hz]; exact ⟨none, 0, rfl, hK, Own.empty⟩
    refine w19_1 ⟨fun _ => ⟨_, i1, _, i2, Cn.eq c34 ⟨_, rfl, fun hk => ?_, fun hk => ⟨_, i1, _, i3, fun hlong => ?_, fun hlong => ?_⟩⟩⟩, fun h => by omega⟩
    · refine hnil _ K 2 2 rfl ?_
      rw [joinS, if_pos (by show ¬ (1 ≤ l[i].k ∧ l[i].k ≤ 3); simp at hk; omega)]
    · refine hnil _ K 5 5 rfl ?_
      have hk' : 1 ≤ l[i].k ∧ l[i].k ≤ 3 := by simpa using hk
      rw [joinS, if_neg (by simpa [Ob.pc] using hk'), if_pos (by have : ((l[i].b.length : Nat) : Int) > 16777216 := hlong; show l[i].b.length > 16777216; omega)]
    have hk' : 1 ≤ l[i].k ∧ l[i].k ≤ 3 := by simpa using hk
    have hlen : l[i].b.length ≤ 16777216 := by have : ¬ ((l[i].b.length : Nat) : Int) > 16777216 := hlong; omega
    refine Cn.mono c35 ?_
    rintro v N ⟨rfl, K3, hs3, hW⟩
    have KN := K.trans K3
    have hW' : Wf (fun i => N.nb.size ≤ i) N M.nb.size [] := hW.mono (by omega) fun i _ h => h.elim
    have hFl : Fl (fun i => N.nb.size ≤ i) N M.nb.size := ⟨fun i hi => by
      have := K.size
      rw [KN.floor]
      rcases hi with hi | rfl
      · have := KN.size; omega
      · omega, fun i hi => hi⟩
    have el : IntKind.u32.wrap ((l[i].b.length : Nat) : Int) = ((l[i].b.length : Nat) : Int) := u32w (by omega)
    obtain ⟨a, i1, i2, i3⟩ := rd KN
    refine ⟨_, rfl, _, i1, _, i3, ?_⟩
    show Cn Try.prog 36 #[_, .int .u32 (IntKind.u32.wrap ((l[i].b.length : Nat) : Int))] N _
    rw [el]
    refine Cn.mono (c36 hFl hW' (v := l[i].b.length) rfl (by omega) (by decide)) ?_
    have eb : wLeb [] l[i].b.length = (0, lebB 5 l[i].b.length) := by unfold wLeb; rw [if_neg (by decide)]; rfl
    rw [eb]
    rintro v3 N3 ⟨rfl, C3, hW3⟩
    have K3' : Keep M0 N3 := Keep.step KN C3 fun i hi => by have := K.size; have := KN.size; omega
    obtain ⟨a, i1, i2, i3⟩ := rd K3'
    have ev : IntKind.u8.wrap (IntKind.i64.wrap (16 * l[i].k)) = (((16 * l[i].k).toNat : Nat) : Int) := by rw [i64w (by omega), u8w (by omega)]; omega
    have hO' : Own (fun i => M0.nb.size ≤ i ∧ i < M.nb.size) M 5 Ao co (U8 o) := hO.mono fun i hi h => ⟨h, hi⟩
    have hO3 : Own (fun i => M0.nb.size ≤ i ∧ i < M.nb.size) N3 5 Ao co (U8 o) := (hO'.chg K3 fun _ _ _ x => x).chg C3 fun i _ hs ht => by have := K3.size; omega
    obtain ⟨A4, c4, N4, q0, C4, O4, hc4⟩ := app1S el5 (S := fun i => (M0.nb.size ≤ i ∧ i < M.nb.size) ∨ N3.nb.size ≤ i) (hO3.mono fun i _ hs => .inl hs) (n := o.length) (by simp) (v := .int .u8 ((16 * l[i].k).toNat : Nat)) (fun i hi => by
      have := K3'.size
      rw [K3'.floor]; omega) (.inr (Nat.le_refl _)) (.inr (Nat.le_succ _)) rfl (by omega)
    have K4' : Keep M0 N4 := Keep.step K3' C4 fun i hi => by have := K3'.size; omega
    have hW4 := hW3.chg C4 fun i hi hs => by have := K3.size; have := C3.size; omega
    refine ⟨_, rfl, _, i1, _, i2, ?_⟩
    rw [ev]
    have O4' : Own (fun i => M0.nb.size ≤ i) N4 5 A4 c4 (U8 (o ++ [(16 * l[i].k).toNat])) := by
      have e : U8 (o ++ [(16 * l[i].k).toNat]) = U8 o ++ [.int .u8 ((16 * l[i].k).toNat : Nat)] := by simp
      rw [e]
      exact O4.mono fun i _ hs => hs.elim (fun h => h.1) fun h => Nat.le_trans K3'.size h
    refine ⟨_, q0, _, rfl, Cn.mono (c37 hW4 (by rw [K4'.floor]; exact Nat.le_trans hf K4'.size)) ?_⟩
    rintro v5 N5 ⟨A5, c5, rfl, K5, hO5⟩
    have K5' := K4'.trans K5
    have hpl : (pack (lebB 5 l[i].b.length)).length ≤ 8 := by
      have := lebB_len 5 l[i].b.length
      rw [pack_len]; omega
    obtain ⟨A6, c6, N6, q1, K6, O6⟩ := app_u8 hf K5' (O4'.chg K5 fun _ _ _ x => x) (X := A5) (cx := c5) (k := (pack (lebB 5 l[i].b.length)).length) (b := pack (lebB 5 l[i].b.length)) hO5.row (n := o.length + 1) (by simp) rfl (by simp; omega)
    obtain ⟨a, i1, i2, i3⟩ := rd K6
    obtain ⟨A7, c7, N7, q2, K7, O7⟩ := app_u8 hf K6 O6 (X := l[i].A) (cx := l[i].c) (k := l[i].b.length) ((hA.chg K6).2 _ (List.getElem_mem hil)) (n := o.length + 1 + (pack (lebB 5 l[i].b.length)).length) (by simp; omega) rfl (by simp; omega)
    refine ⟨_, rfl, _, q1, _, rfl, _, i1, _, i3, _, q2, _, rfl, ?_⟩
    rw [i64w (by omega), show ((i : Int) + 1) = ((i + 1 : Nat) : Int) by omega]
    have hr := c19_loop hf hA hn hb k (i + 1) (o ++ [(16 * l[i].k).toNat] ++ pack (lebB 5 l[i].b.length) ++ l[i].b) A7 c7 (M := N7) (by omega) K7 O7 (by simp; omega)
    have ej : joinS o (l[i].pc :: (l.drop (i + 1)).map Ob.pc) = joinS (o ++ [(16 * l[i].k).toNat] ++ pack (lebB 5 l[i].b.length) ++ l[i].b) ((l.drop (i + 1)).map Ob.pc) := by
      rw [joinS, if_neg (by simpa [Ob.pc] using hk'), if_neg (by show ¬ l[i].b.length > 16777216; omega)]
      simp [Ob.pc]
    rw [ej]
    rw [List.length_append, List.length_append, List.length_append] at hr
    exact hr
theorem c19 (hf : M0.floor ≤ M0.nb.size) (hA : ObR M0 A l) (hn : n = l.length) (hb : n ≤ 2097152) : Cn Try.prog 19 #[.slice A n c] M0 (JnR M0 (joinS [] (l.map Ob.pc))) :=
  w19_0 (c19_loop hf hA hn hb _ 0 [] none 0 (Nat.zero_add _) (.refl _) Own.empty (Nat.zero_le _))
end
end Go.Zt
