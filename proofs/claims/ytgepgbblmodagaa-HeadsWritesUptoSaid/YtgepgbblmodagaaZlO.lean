/- Layer 20: the program's Check of a frame header, whole. -/
import Derived.Test.YtgepgbblmodagaaZlN
set_option linter.unusedSimpArgs false
set_option linter.unusedVariables false
set_option maxRecDepth 100000
namespace Go.Zt
open Go Go.Sim Go.Proofs Go.RowKit
section
variable {h : Hd} {X : List Sg} {M0 M : Mem} {j i w e : Nat}
theorem s26_6 {b : Bool} {d0 d1 d2 d3 d4 i x : Int} {Q : Value → Mem → Prop} (hi : i < 5) (hx : strV Try.prog 36 (.agg #[.int .i64 d0, .int .i64 d1, .int .i64 d2, .int .i64 d3, .int .i64 d4]) (.int .i64 i) = some (.int .i64 x))
    (k : A26_6 (b && decide (-31 ≤ x ∧ x ≤ 31)) d0 d1 d2 d3 d4 (IntKind.i64.wrap (i + 1)) M Q) : A26_6 b d0 d1 d2 d3 d4 i M Q :=
  w26_6 (cT (decide_eq_true hi) (pu hx (ty rfl (cn (fun hb => Cn.eq c55 (ty rfl (w26_9 (w26_11 (by rw [hb] at k; exact k))))) fun hb => w26_9 (w26_11 (by rw [hb] at k; exact k))))))
theorem s26_3 {x2 : Option Addr} {b : Bool} {d0 d1 d2 i x : Int} {Q : Value → Mem → Prop} (hi : i < 3) (hx : strV Try.prog 35 (.agg #[.int .i64 d0, .int .i64 d1, .int .i64 d2]) (.int .i64 i) = some (.int .i64 x))
    (k : A26_3 x2 (b && decide (0 ≤ x ∧ x ≤ 7)) d0 d1 d2 (IntKind.i64.wrap (i + 1)) M Q) : A26_3 x2 b d0 d1 d2 i M Q :=
  w26_3 (cT (decide_eq_true hi) (pu hx (ty rfl (cn (fun hb => Cn.eq c55 (ty rfl (w26_5 (w26_8 (by rw [hb] at k; exact k))))) fun hb => w26_5 (w26_8 (by rw [hb] at k; exact k))))))
def er (b : Bool) : Nat := if b then 0 else 2
theorem and5 {a b c d e : Bool} {pa pb pc pd pe : Prop} [Decidable pa] [Decidable pb] [Decidable pc] [Decidable pd] [Decidable pe] {z : Bool} :
    (((((z && decide pa) && decide pb) && decide pc) && decide pd) && decide pe) = (z && decide (pa ∧ pb ∧ pc ∧ pd ∧ pe)) := by
  rw [Bool.eq_iff_iff]; simp only [Bool.and_eq_true, decide_eq_true_eq, and_assoc]
theorem and3 {pa pb pc : Prop} [Decidable pa] [Decidable pb] [Decidable pc] {z : Bool} : (((z && decide pa) && decide pb) && decide pc) = (z && decide (pa ∧ pb ∧ pc)) := by
  rw [Bool.eq_iff_iff]; simp only [Bool.and_eq_true, decide_eq_true_eq, and_assoc]
theorem e26_1 (K : Keep M0 M) (a : M.nb[j]? = some (.cells h.cs 41)) (b : Bool) : A26_1 (some ⟨2 * j, 0, none⟩) b M (IntK M0 (er (b && decide ((0 ≤ h.r0 ∧ h.r0 ≤ 7) ∧ (0 ≤ h.r1 ∧ h.r1 ≤ 7) ∧ (0 ≤ h.r2 ∧ h.r2 ≤ 7)) &&
  decide ((-31 ≤ h.d0 ∧ h.d0 ≤ 31) ∧ (-31 ≤ h.d1 ∧ h.d1 ≤ 31) ∧ (-31 ≤ h.d2 ∧ h.d2 ≤ 31) ∧ (-31 ≤ h.d3 ∧ h.d3 ≤ 31) ∧ (-31 ≤ h.d4 ∧ h.d4 ≤ 31))) : Nat)) := by
  refine w26_1 (ad rfl (on (int_of a rfl) (on (int_of a rfl) (on (int_of a rfl) ?_))))
  refine s26_3 (by decide) (x := h.r0) (by kernel_rfl) (s26_3 (by decide) (x := h.r1) (by kernel_rfl) (s26_3 (by decide) (x := h.r2) (by kernel_rfl) (w26_3 (cF (by decide) ?_))))
  rw [and3]
  generalize (b && decide ((0 ≤ h.r0 ∧ h.r0 ≤ 7) ∧ (0 ≤ h.r1 ∧ h.r1 ≤ 7) ∧ (0 ≤ h.r2 ∧ h.r2 ≤ 7))) = b
  refine ad rfl (on (int_of a rfl) (on (int_of a rfl) (on (int_of a rfl) (on (int_of a rfl) (on (int_of a rfl) ?_)))))
  refine s26_6 (by decide) (x := h.d0) (by kernel_rfl) (s26_6 (by decide) (x := h.d1) (by kernel_rfl) (s26_6 (by decide) (x := h.d2) (by kernel_rfl) (s26_6 (by decide) (x := h.d3) (by kernel_rfl) (s26_6 (by decide) (x := h.d4) (by kernel_rfl) (w26_6 (cF (by decide) ?_))))))
  rw [and5 (a := b) (b := b) (c := b) (d := b) (e := b)]
  generalize (b && decide ((-31 ≤ h.d0 ∧ h.d0 ≤ 31) ∧ (-31 ≤ h.d1 ∧ h.d1 ≤ 31) ∧ (-31 ≤ h.d2 ∧ h.d2 ≤ 31) ∧ (-31 ≤ h.d3 ∧ h.d3 ≤ 31) ∧ (-31 ≤ h.d4 ∧ h.d4 ≤ 31))) = b
  exact cnn (fun hb => ⟨by rw [hb]; rfl, K⟩) fun hb => ⟨by rw [hb]; rfl, K⟩
theorem c26 {w e : Int} (hf : M.floor ≤ M.nb.size) (hn : h.n = X.length) (hb : h.n ≤ 1048576) (hR : Row M h.A (Sgs X)) : Cn Try.prog 26 #[.agg h.cs, .agg #[.int .i64 w, .int .i64 e]] M (IntK M (er (h.may X w e) : Nat)) := by
  have a := Mem.new_at M (.cells h.cs 41)
  have K : Keep M (M.new (.cells h.cs 41)) := .new _ _
  refine w26_0 ?_
  generalize M.new (.cells h.cs 41) = N at a K ⊢
  have s := Mem.new_at N (.cells #[.int .i64 w, .int .i64 e] 23)
  have K2 : Keep N (N.new (.cells #[.int .i64 w, .int .i64 e] 23)) := .new _ _
  have a2 := at_keep a K2
  generalize N.new (.cells #[.int .i64 w, .int .i64 e] 23) = N2 at s K2 a2 ⊢
  have KK := K.trans K2
  generalize M.nb.size = j at a2
  generalize N.nb.size = i at s
  refine on (int_of s rfl) (on (int_of s rfl) (Cn.mono c14 ?_))
  rintro _ N3 ⟨rfl, K3⟩
  have a3 := at_keep a2 K3
  have s3 := at_keep s K3
  have KK3 := KK.trans K3
  clear a2 s a
  refine ty rfl (on (bool_of a3 rfl) ?_)
  have fin : ∀ {N : Mem} (b : Bool), Keep M N → N.nb[j]? = some (.cells h.cs 41) → (b = (mayS w e && (if h.ex then decide (0 ≤ h.sl ∧ h.sl ≤ 7) && h.mt X
    else decide (h.sl = 0 ∧ (0 ≤ h.rf ∧ h.rf ≤ 255) ∧ (-1 ≤ h.pr ∧ h.pr ≤ 7) ∧ (0 ≤ h.ba ∧ h.ba ≤ 255)) && logM h.co w && logM h.ro e && h.mayF X && (!h.ke || decide ((h.r0 = 0 ∧ h.r1 = 0 ∧ h.r2 = 0) ∧ h.pr = -1))))) → A26_1 (some ⟨2 * j, 0, none⟩) b N (IntK M (er (h.may X w e) : Nat)) := by
    intro N b K a hb
    have := e26_1 K a b
    rw [hb] at this ⊢
    exact this
  have m0 : ((chkS w e : Nat) : Int) = 0 → mayS w e = true := chk0
  have m1 : ((chkS w e : Nat) : Int) ≠ 0 → mayS w e = false := chk1
  refine cn (fun hx => ce (fun hm => on (int_of a3 rfl) (Cn.eq c55 (ty rfl (cd (fun hs => ldA a3 rfl (Cn.mono (c56 (fb hf KK3) hn hb (hR.keep KK3)) ?_)) fun hs => fin _ KK3 a3 ?_)))) fun hm => fin _ KK3 a3 ?_) fun hx => ?_
  · rintro _ N4 ⟨rfl, K4⟩
    refine ty rfl (fin _ (KK3.trans K4) (at_keep a3 K4) ?_)
    rw [m0 hm, hx, if_pos rfl, decide_eq_true hs]; rfl
  · rw [hx, if_pos rfl, decide_eq_false hs]; simp
  · rw [m1 hm]; rfl
  have sz : mayS w e = true → (16 ≤ w ∧ w ≤ 256) ∧ (16 ≤ e ∧ e ≤ 256) := fun g => by have := mayS_of g; omega
  have e14 : ∀ {N : Mem} (b : Bool), Keep M N → N.nb[j]? = some (.cells h.cs 41) → (b = (mayS w e && (decide (h.sl = 0 ∧ (0 ≤ h.rf ∧ h.rf ≤ 255) ∧ (-1 ≤ h.pr ∧ h.pr ≤ 7) ∧ (0 ≤ h.ba ∧ h.ba ≤ 255)) && logM h.co w && logM h.ro e && h.mayF X))) → A26_14 (some ⟨2 * j, 0, none⟩) b N (IntK M (er (h.may X w e) : Nat)) := by
    intro N b K a g
    have go : ∀ b', b' = (b && (!h.ke || decide ((h.r0 = 0 ∧ h.r1 = 0 ∧ h.r2 = 0) ∧ h.pr = -1))) → A26_1 (some ⟨2 * j, 0, none⟩) b' N (IntK M (er (h.may X w e) : Nat)) := fun b' g' => fin b' K a (by rw [g', g, hx, if_neg (by decide), Bool.and_assoc])
    refine w26_14 (cn (fun hb => ad rfl (on (bool_of a rfl) (cnn (fun hk => go _ (by rw [hb, hk]; rfl)) fun hk => ad rfl (on (int_of a rfl) (on (int_of a rfl) (on (int_of a rfl) (pu (eq35 ..).1 (ty rfl (cd (fun hr => ad rfl (on (int_of a rfl) (go _ ?_))) fun hr => go _ ?_))))))))) fun hb => go _ (by rw [hb]; rfl))
    · rw [hb, hk, Bool.eq_iff_iff, beq_iff_eq]; simp [hr]
    · rw [hb, hk]; simp [hr]
  have e13 : ∀ {N : Mem} (b : Bool), Keep M N → N.nb[j]? = some (.cells h.cs 41) → (b = (mayS w e && (decide (h.sl = 0 ∧ (0 ≤ h.rf ∧ h.rf ≤ 255) ∧ (-1 ≤ h.pr ∧ h.pr ≤ 7) ∧ (0 ≤ h.ba ∧ h.ba ≤ 255)) && logM h.co w && logM h.ro e))) → A26_13 (some ⟨2 * j, 0, none⟩) b N (IntK M (er (h.may X w e) : Nat)) := by
    intro N b K a g
    refine w26_13 (cn (fun hb' => ad rfl (ldA a rfl (Cn.mono (c58 (fb hf K) hn hb (hR.keep K)) ?_))) fun hb' => e14 _ K a (by rw [← Bool.and_assoc, ← g, hb']; rfl))
    rintro _ N4 ⟨rfl, K4⟩
    exact ty rfl (e14 _ (K.trans K4) (at_keep a K4) (by rw [← Bool.and_assoc, ← g, hb']; rfl))
  have e12 : ∀ {N : Mem} (b : Bool), Keep M N → N.nb[j]? = some (.cells h.cs 41) → N.nb[i]? = some (.cells #[.int .i64 w, .int .i64 e] 23) → (b = (mayS w e && (decide (h.sl = 0 ∧ (0 ≤ h.rf ∧ h.rf ≤ 255) ∧ (-1 ≤ h.pr ∧ h.pr ≤ 7) ∧ (0 ≤ h.ba ∧ h.ba ≤ 255)) && logM h.co w))) → A26_12 (some ⟨2 * j, 0, none⟩) (some ⟨2 * i, 0, none⟩) b N (IntK M (er (h.may X w e) : Nat)) := by
    intro N b K a s g
    refine w26_12 (cn (fun hb' => ad rfl (on (int_of a rfl) (ad rfl (on (int_of s rfl) (Cn.eq (c57 (sz ?_).2) (ty rfl (e13 _ K a ?_))))))) fun hb' => e13 _ K a (by rw [← Bool.and_assoc, ← g, hb']; rfl))
    · rw [hb', eq_comm, Bool.and_eq_true] at g; exact g.1
    · rw [← Bool.and_assoc, ← g, hb']; rfl
  have e10 : ∀ {N : Mem} (b : Bool), Keep M N → N.nb[j]? = some (.cells h.cs 41) → N.nb[i]? = some (.cells #[.int .i64 w, .int .i64 e] 23) → (b = (mayS w e && decide (h.sl = 0 ∧ (0 ≤ h.rf ∧ h.rf ≤ 255) ∧ (-1 ≤ h.pr ∧ h.pr ≤ 7) ∧ (0 ≤ h.ba ∧ h.ba ≤ 255)))) → A26_10 (some ⟨2 * j, 0, none⟩) (some ⟨2 * i, 0, none⟩) b N (IntK M (er (h.may X w e) : Nat)) := by
    intro N b K a s g
    refine w26_10 (cn (fun hb' => ad rfl (on (int_of a rfl) (ad rfl (on (int_of s rfl) (Cn.eq (c57 (sz ?_).1) (ty rfl (e12 _ K a s ?_))))))) fun hb' => e12 _ K a s (by rw [← Bool.and_assoc, ← g, hb']; rfl))
    · rw [hb', eq_comm, Bool.and_eq_true] at g; exact g.1
    · rw [← Bool.and_assoc, ← g, hb']; rfl
  have dd : ∀ {p q r : Prop} [Decidable p] [Decidable q] [Decidable r] {b : Bool}, b = (mayS w e && decide p) → b = true → (p → (q ↔ r)) → decide q = (mayS w e && decide (p ∧ r)) := by
    intro p q r _ _ _ b g hb hq
    rw [hb, eq_comm, Bool.and_eq_true] at g
    have hp := of_decide_eq_true g.2
    rw [g.1, Bool.true_and, decide_eq_decide, hq hp]; exact ⟨fun x => ⟨hp, x⟩, fun x => x.2⟩
  have df : ∀ {p r : Prop} [Decidable p] [Decidable r] {b : Bool}, b = (mayS w e && decide p) → b = false → false = (mayS w e && decide (p ∧ r)) := by
    intro p r _ _ b g hb
    rw [hb] at g
    cases hm : mayS w e
    · rfl
    · rw [hm, Bool.true_and] at g
      have := of_decide_eq_false g.symm
      rw [Bool.true_and, eq_comm]; exact decide_eq_false fun x => this x.1
  have as4 : ∀ {p q r s : Prop} [Decidable p] [Decidable q] [Decidable r] [Decidable s] {b : Bool}, b = (mayS w e && decide (((p ∧ q) ∧ r) ∧ s)) → b = (mayS w e && decide (p ∧ q ∧ r ∧ s)) := by
    intro p q r s _ _ _ _ b g
    rw [g]; congr 1; rw [decide_eq_decide]; exact ⟨fun x => ⟨x.1.1.1, x.1.1.2, x.1.2, x.2⟩, fun x => ⟨⟨⟨x.1, x.2.1⟩, x.2.2.1⟩, x.2.2.2⟩⟩
  have e7 : ∀ {N : Mem} (b : Bool), Keep M N → N.nb[j]? = some (.cells h.cs 41) → N.nb[i]? = some (.cells #[.int .i64 w, .int .i64 e] 23) → (b = (mayS w e && decide ((h.sl = 0 ∧ (0 ≤ h.rf ∧ h.rf ≤ 255)) ∧ (-1 ≤ h.pr ∧ h.pr ≤ 7)))) → A26_7 (some ⟨2 * j, 0, none⟩) (some ⟨2 * i, 0, none⟩) b N (IntK M (er (h.may X w e) : Nat)) := by
    intro N b K a s g
    exact w26_7 (cn (fun hb' => ad rfl (on (int_of a rfl) (Cn.eq c55 (ty rfl (e10 _ K a s (as4 (dd g hb' fun _ => Iff.rfl))))))) fun hb' => e10 _ K a s (as4 (df g hb')))
  have e4 : ∀ {N : Mem} (b : Bool), Keep M N → N.nb[j]? = some (.cells h.cs 41) → N.nb[i]? = some (.cells #[.int .i64 w, .int .i64 e] 23) → (b = (mayS w e && decide (h.sl = 0 ∧ (0 ≤ h.rf ∧ h.rf ≤ 255)))) → A26_4 (some ⟨2 * j, 0, none⟩) (some ⟨2 * i, 0, none⟩) b N (IntK M (er (h.may X w e) : Nat)) := by
    intro N b K a s g
    exact w26_4 (cn (fun hb' => ad rfl (on (int_of a rfl) (Cn.eq c55 (ty rfl (e7 _ K a s (dd g hb' fun _ => Iff.rfl)))))) fun hb' => e7 _ K a s (df g hb'))
  have e2 : ∀ {N : Mem} (b : Bool), Keep M N → N.nb[j]? = some (.cells h.cs 41) → N.nb[i]? = some (.cells #[.int .i64 w, .int .i64 e] 23) → (b = (mayS w e && decide (h.sl = 0))) → A26_2 (some ⟨2 * j, 0, none⟩) (some ⟨2 * i, 0, none⟩) b N (IntK M (er (h.may X w e) : Nat)) := by
    intro N b K a s g
    exact w26_2 (cn (fun hb' => ad rfl (on (int_of a rfl) (Cn.eq c55 (ty rfl (e4 _ K a s (dd g hb' fun _ => Iff.rfl)))))) fun hb' => e4 _ K a s (df g hb'))
  refine ce (fun hm => on (int_of a3 rfl) (e2 _ KK3 a3 s3 ?_)) fun hm => e2 _ KK3 a3 s3 ?_
  · rw [m0 hm]; rfl
  · rw [m1 hm]; rfl
end
end Go.Zt
