/- Layer 20: the document's Check of a frame header. -/
import Derived.Test.YtgepgbblmodagaaZlQ
set_option linter.unusedSimpArgs false
set_option linter.unusedVariables false
set_option maxRecDepth 100000
namespace Go.Zt
open Go Go.Sim Go.Proofs Go.RowKit
section
variable {h : Hd} {X : List Sg} {M0 M : Mem} {j i : Nat} {w e : Int}
theorem may_iff (hx : h.ex = false) (hm : mayS w e = true) : h.may X w e = true ↔ ((h.sl = 0 ∧ (0 ≤ h.rf ∧ h.rf ≤ 255) ∧ (-1 ≤ h.pr ∧ h.pr ≤ 7) ∧ (0 ≤ h.ba ∧ h.ba ≤ 255)) ∧ (h.ke = true → (h.r0 = 0 ∧ h.r1 = 0 ∧ h.r2 = 0) ∧ h.pr = -1) ∧
    ((0 ≤ h.r0 ∧ h.r0 ≤ 7) ∧ (0 ≤ h.r1 ∧ h.r1 ≤ 7) ∧ (0 ≤ h.r2 ∧ h.r2 ≤ 7)) ∧ ((-31 ≤ h.d0 ∧ h.d0 ≤ 31) ∧ (-31 ≤ h.d1 ∧ h.d1 ≤ 31) ∧ (-31 ≤ h.d2 ∧ h.d2 ≤ 31) ∧ (-31 ≤ h.d3 ∧ h.d3 ≤ 31) ∧ (-31 ≤ h.d4 ∧ h.d4 ≤ 31)) ∧ logM h.co w = true ∧ logM h.ro e = true ∧ h.mayF X = true) := by
  unfold Hd.may
  simp only [hx, hm, Bool.false_eq_true, if_false, Bool.true_and, Bool.and_eq_true, decide_eq_true_eq, Bool.or_eq_true, Bool.not_eq_true']
  constructor
  · rintro ⟨⟨⟨⟨⟨⟨a1, a2⟩, a3⟩, a4⟩, a5⟩, a6⟩, a7⟩
    exact ⟨a1, fun hk => a5.resolve_left (by rw [hk]; decide), a6, a7, a2, a3, a4⟩
  · rintro ⟨a1, a5, a6, a7, a2, a3, a4⟩
    refine ⟨⟨⟨⟨⟨⟨a1, a2⟩, a3⟩, a4⟩, ?_⟩, a6⟩, a7⟩
    cases hk : h.ke
    · exact .inl rfl
    · exact .inr (a5 hk)
theorem log_iff {n s : Int} (hs : 16 ≤ s ∧ s ≤ 256) (h2 : 0 ≤ n ∧ n ≤ 2) : (decide ((1 : Int) * 2 ^ n.toNat > (s + 63) / 64) = true ↔ ¬ logM n s = true) := by
  unfold logM
  rw [decide_eq_true_eq, decide_eq_true_eq, Int.one_mul]
  omega
theorem c27 (hf : M.floor ≤ M.nb.size) (hn : h.n = X.length) (hb : h.n ≤ 1048576) (hR : Row M h.A (Sgs X)) : Cn Try.prog 27 #[.agg h.cs, .agg #[.int .i64 w, .int .i64 e]] M (IntK M (er (h.may X w e) : Nat)) := by
  have a := Mem.new_at M (.cells h.cs 41)
  have K : Keep M (M.new (.cells h.cs 41)) := .new _ _
  refine w27_0 ?_
  generalize M.new (.cells h.cs 41) = N at a K ⊢
  have s := Mem.new_at N (.cells #[.int .i64 w, .int .i64 e] 23)
  have K2 : Keep N (N.new (.cells #[.int .i64 w, .int .i64 e] 23)) := .new _ _
  have a2 := at_keep a K2
  generalize N.new (.cells #[.int .i64 w, .int .i64 e] 23) = N2 at s K2 a2 ⊢
  have KK := K.trans K2
  generalize M.nb.size = j at a2
  generalize N.nb.size = i at s
  refine on (int_of s rfl) (on (int_of s rfl) (Cn.mono c15 ?_))
  rintro _ N3 ⟨rfl, K3⟩
  have a3 := at_keep a2 K3
  have s3 := at_keep s K3
  have KK3 := KK.trans K3
  clear a2 s a
  refine ty rfl (cne (fun hm => ⟨?_, KK3⟩) fun hm => on (bool_of a3 rfl) ?_)
  · have hm : mayS w e = false := chk1 hm
    unfold Hd.may; rw [hm]; rfl
  have hm : mayS w e = true := chk0 hm
  refine cn (fun hx => ?_) fun hx => ?_
  · -- a header that shows an old frame
    have e1 : ∀ {N : Mem} (b : Bool), Keep M N → (b = h.may X w e) → A27_1 b N (IntK M (er (h.may X w e) : Nat)) := fun b K hb =>
      w27_1 (cn (fun h1 => ⟨by rw [← hb, h1]; rfl, K⟩) fun h1 => ⟨by rw [← hb, h1]; rfl, K⟩)
    have mq : h.may X w e = (decide (0 ≤ h.sl ∧ h.sl ≤ 7) && h.mt X) := by
      unfold Hd.may; rw [hm, hx, if_pos rfl, Bool.true_and]
      rw [Bool.eq_iff_iff]
      simp only [Bool.and_eq_true]
      refine ⟨fun g => g.1.1, fun g => ⟨⟨g, ?_⟩, ?_⟩⟩
      · have := of_decide_eq_true g.2; exact decide_eq_true (by omega)
      · have := of_decide_eq_true (of_decide_eq_true g.2).2.2.2.2.2.1; exact decide_eq_true (by omega)
    refine on (int_of a3 rfl) (Cn.eq c45 (ty rfl (cn (fun hs => ldA a3 rfl (on (int_of a3 rfl) (Cn.mono (c30 (g := .only h.sl) (Y := []) (fb hf KK3) hn rfl hb (hR.keep KK3) row0) ?_))) fun hs => e1 _ KK3 (by rw [mq, hs]; rfl))))
    rintro _ N4 ⟨rfl, K4⟩
    exact ty rfl (e1 _ (KK3.trans K4) (by rw [same_only hx hn, mq, hs]; rfl))
  have mi := may_iff (h := h) (X := X) hx hm
  have bad : ∀ {N : Mem}, Keep M N → (¬ (h.may X w e = true)) → IntK M (er (h.may X w e) : Nat) (.int .i64 2) N := fun K hh => ⟨by rw [Bool.eq_false_iff.2 hh]; rfl, K⟩
  have sz : (16 ≤ w ∧ w ≤ 256) ∧ (16 ≤ e ∧ e ≤ 256) := by have := mayS_of hm; omega
  have e11 : ∀ {N : Mem} (b : Bool), Keep M N → (b = !(h.may X w e)) → A27_11 b N (IntK M (er (h.may X w e) : Nat)) := fun b K hb =>
    w27_11 (cn (fun h1 => bad K (by rw [h1, eq_comm, Bool.not_eq_true'] at hb; rw [hb]; decide)) fun h1 => ⟨by rw [h1, eq_comm, Bool.not_eq_false'] at hb; rw [hb]; rfl, K⟩)
  have e10 : ∀ {N : Mem} (b : Bool), Keep M N → N.nb[j]? = some (.cells h.cs 41) → (b = true → ¬ (h.may X w e = true)) → (b = false → (h.may X w e = true ↔ h.mayF X = true)) → A27_10 (some ⟨2 * j, 0, none⟩) b N (IntK M (er (h.may X w e) : Nat)) := by
    intro N b K a h1 h0
    refine w27_10 (cn (fun hb' => e11 _ K (by rw [Bool.eq_false_iff.2 (h1 hb')]; rfl)) fun hb' => ad rfl (ldA a rfl (Cn.mono (c60 (fb hf K) hn hb (hR.keep K)) ?_)))
    rintro _ N4 ⟨rfl, K4⟩
    exact ty rfl (e11 _ (K.trans K4) (by rw [Bool.eq_iff_iff.2 (h0 hb')]))
  have e9 : ∀ {N : Mem} (b : Bool), Keep M N → N.nb[j]? = some (.cells h.cs 41) → N.nb[i]? = some (.cells #[.int .i64 w, .int .i64 e] 23) → (0 ≤ h.co ∧ h.co ≤ 2) → (0 ≤ h.ro ∧ h.ro ≤ 2) → (b = true → ¬ (h.may X w e = true)) → (b = false → (h.may X w e = true ↔ logM h.ro e = true ∧ h.mayF X = true)) → A27_9 (some ⟨2 * j, 0, none⟩) (some ⟨2 * i, 0, none⟩) b N (IntK M (er (h.may X w e) : Nat)) := by
    intro N b K a s q1 q2 h1 h0
    obtain ⟨p1, p2⟩ := pow2 (n := h.ro) (by omega)
    refine w27_9 (cn (fun hb' => e10 _ K a (fun _ => h1 hb') fun h => (by cases h)) fun hb' => ad rfl (on (int_of a rfl) (pu (shl_i64 (q := h.ro.toNat) (by omega) (by omega) (by omega)) (ty rfl (ad rfl (on (int_of s rfl) (Cn.eq (c59 (M := { N with floor := N.nb.size }) sz.2) (ty rfl (e10 _ K a (fun hx hy => ?_) fun hx => ?_)))))))))
    · exact (log_iff sz.2 q2).1 hx ((h0 hb').1 hy).1
    · have : logM h.ro e = true := by
        by_cases g : logM h.ro e = true
        · exact g
        · have := (log_iff sz.2 q2).2 g; rw [this] at hx; cases hx
      rw [h0 hb']; exact ⟨fun g => g.2, fun g => ⟨this, g⟩⟩
  have e8 : ∀ {N : Mem} (b : Bool), Keep M N → N.nb[j]? = some (.cells h.cs 41) → N.nb[i]? = some (.cells #[.int .i64 w, .int .i64 e] 23) → (b = true → ¬ (h.may X w e = true)) → (b = false → (0 ≤ h.co ∧ h.co ≤ 2) ∧ (0 ≤ h.ro ∧ h.ro ≤ 2) ∧ (h.may X w e = true ↔ logM h.co w = true ∧ logM h.ro e = true ∧ h.mayF X = true)) → A27_8 (some ⟨2 * j, 0, none⟩) (some ⟨2 * i, 0, none⟩) b N (IntK M (er (h.may X w e) : Nat)) := by
    intro N b K a s h1 h0
    refine w27_8 (cn (fun hb' => w27_9 (cT rfl (e10 _ K a (fun _ => h1 hb') fun h => (by cases h)))) fun hb' => ad rfl (on (int_of a rfl) ?_))
    obtain ⟨q1, q2, q3⟩ := h0 hb'
    obtain ⟨p1, p2⟩ := pow2 (n := h.co) (by omega)
    refine pu (shl_i64 (q := h.co.toNat) (by omega) (by omega) (by omega)) (ty rfl (ad rfl (on (int_of s rfl) (Cn.eq (c59 (M := { N with floor := N.nb.size }) sz.1) (ty rfl (e9 _ K a s q1 q2 (fun hx hy => ?_) fun hx => ?_))))))
    · exact (log_iff sz.1 q1).1 hx (q3.1 hy).1
    · have : logM h.co w = true := by
        by_cases g : logM h.co w = true
        · exact g
        · have := (log_iff sz.1 q1).2 g; rw [this] at hx; cases hx
      rw [q3]; exact ⟨fun g => g.2, fun g => ⟨this, g⟩⟩
  have lr : ∀ {n s : Int}, logM n s = true → 0 ≤ n ∧ n ≤ 2 := fun g => by have := of_decide_eq_true g; omega
  have e6 : ((h.sl = 0 ∧ (0 ≤ h.rf ∧ h.rf ≤ 255) ∧ (-1 ≤ h.pr ∧ h.pr ≤ 7) ∧ (0 ≤ h.ba ∧ h.ba ≤ 255)) ∧ (h.ke = true → (h.r0 = 0 ∧ h.r1 = 0 ∧ h.r2 = 0) ∧ h.pr = -1)) → A27_6 (some ⟨2 * j, 0, none⟩) (some ⟨2 * i, 0, none⟩) 0 N3 (IntK M (er (h.may X w e) : Nat)) := by
    intro g
    refine w27_6 (cT (by decide) (ad rfl (ix (x := ⟨2 * j, 5, none⟩) (by kernel_rfl) (on (int_of (i := 5) a3 rfl) (Cn.eq c45 (ty rfl (cnn (fun h0 => bad KK3 fun hh => dF h0 (mi.1 hh).2.2.1.1) fun r0 => ?_)))))))
    refine w27_6 (cT (by decide) (ad rfl (ix (x := ⟨2 * j, 6, none⟩) (by kernel_rfl) (on (int_of (i := 6) a3 rfl) (Cn.eq c45 (ty rfl (cnn (fun h0 => bad KK3 fun hh => dF h0 (mi.1 hh).2.2.1.2.1) fun r1 => ?_)))))))
    refine w27_6 (cT (by decide) (ad rfl (ix (x := ⟨2 * j, 7, none⟩) (by kernel_rfl) (on (int_of (i := 7) a3 rfl) (Cn.eq c45 (ty rfl (cnn (fun h0 => bad KK3 fun hh => dF h0 (mi.1 hh).2.2.1.2.2) fun r2 => ?_)))))))
    refine w27_6 (cF (by decide) ?_)
    refine w27_7 (cT (by decide) (ad rfl (ix (x := ⟨2 * j, 10, none⟩) (by kernel_rfl) (on (int_of (i := 10) a3 rfl) (Cn.eq c45 (ty rfl (cnn (fun h0 => bad KK3 fun hh => dF h0 (mi.1 hh).2.2.2.1.1) fun d0 => ?_)))))))
    refine w27_7 (cT (by decide) (ad rfl (ix (x := ⟨2 * j, 11, none⟩) (by kernel_rfl) (on (int_of (i := 11) a3 rfl) (Cn.eq c45 (ty rfl (cnn (fun h0 => bad KK3 fun hh => dF h0 (mi.1 hh).2.2.2.1.2.1) fun d1 => ?_)))))))
    refine w27_7 (cT (by decide) (ad rfl (ix (x := ⟨2 * j, 12, none⟩) (by kernel_rfl) (on (int_of (i := 12) a3 rfl) (Cn.eq c45 (ty rfl (cnn (fun h0 => bad KK3 fun hh => dF h0 (mi.1 hh).2.2.2.1.2.2.1) fun d2 => ?_)))))))
    refine w27_7 (cT (by decide) (ad rfl (ix (x := ⟨2 * j, 13, none⟩) (by kernel_rfl) (on (int_of (i := 13) a3 rfl) (Cn.eq c45 (ty rfl (cnn (fun h0 => bad KK3 fun hh => dF h0 (mi.1 hh).2.2.2.1.2.2.2.1) fun d3 => ?_)))))))
    refine w27_7 (cT (by decide) (ad rfl (ix (x := ⟨2 * j, 14, none⟩) (by kernel_rfl) (on (int_of (i := 14) a3 rfl) (Cn.eq c45 (ty rfl (cnn (fun h0 => bad KK3 fun hh => dF h0 (mi.1 hh).2.2.2.1.2.2.2.2) fun d4 => ?_)))))))
    have all : h.may X w e = true ↔ (logM h.co w = true ∧ logM h.ro e = true ∧ h.mayF X = true) := by
      rw [mi]; exact ⟨fun q => q.2.2.2.2, fun q => ⟨g.1, g.2, ⟨dT r0, dT r1, dT r2⟩, ⟨dT d0, dT d1, dT d2, dT d3, dT d4⟩, q⟩⟩
    refine w27_7 (cF (by decide) (ad rfl (on (int_of a3 rfl) (Cn.eq c45 (ty rfl (cnn (fun h0 => e8 _ KK3 a3 s3 (fun _ hh => dF h0 (lr (all.1 hh).1)) fun h => (by cases h)) fun h0 => ad rfl (on (int_of a3 rfl) (Cn.eq c45 (ty rfl (e8 _ KK3 a3 s3 (fun hx hh => dF (nb hx) (lr (all.1 hh).2.1)) fun hx => ⟨dT h0, dT (nb' hx), all⟩))))))))))
  have e5 : ∀ b : Bool, (h.sl = 0 ∧ (0 ≤ h.rf ∧ h.rf ≤ 255) ∧ (-1 ≤ h.pr ∧ h.pr ≤ 7) ∧ (0 ≤ h.ba ∧ h.ba ≤ 255)) → (b = true → ¬ (h.ke = true → (h.r0 = 0 ∧ h.r1 = 0 ∧ h.r2 = 0) ∧ h.pr = -1)) → (b = false → (h.ke = true → (h.r0 = 0 ∧ h.r1 = 0 ∧ h.r2 = 0) ∧ h.pr = -1)) → A27_5 (some ⟨2 * j, 0, none⟩) (some ⟨2 * i, 0, none⟩) b N3 (IntK M (er (h.may X w e) : Nat)) := fun b g h1 h0 =>
    w27_5 (cn (fun hb' => bad KK3 fun hh => h1 hb' (mi.1 hh).2.1) fun hb' => e6 ⟨g, h0 hb'⟩)
  have e4 : ∀ b : Bool, (b = true → ¬ (h.sl = 0 ∧ (0 ≤ h.rf ∧ h.rf ≤ 255) ∧ (-1 ≤ h.pr ∧ h.pr ≤ 7) ∧ (0 ≤ h.ba ∧ h.ba ≤ 255))) → (b = false → (h.sl = 0 ∧ (0 ≤ h.rf ∧ h.rf ≤ 255) ∧ (-1 ≤ h.pr ∧ h.pr ≤ 7) ∧ (0 ≤ h.ba ∧ h.ba ≤ 255))) → A27_4 (some ⟨2 * j, 0, none⟩) (some ⟨2 * i, 0, none⟩) b N3 (IntK M (er (h.may X w e) : Nat)) := fun b h1 h0 =>
    w27_4 (cn (fun hb' => bad KK3 fun hh => h1 hb' (mi.1 hh).1) fun hb' => ad rfl (on (bool_of a3 rfl) (cn (fun hk => ad rfl (on (int_of a3 rfl) (on (int_of a3 rfl) (on (int_of a3 rfl) (pu (eq35 ..).2 (ty rfl (cnn (fun hr => e5 _ (h0 hb') (fun _ hh => dF hr (hh hk).1) fun h => (by cases h)) fun hr => ad rfl (on (int_of a3 rfl) (e5 _ (h0 hb') (fun hx hh => ne_of_bneT hx (hh hk).2) fun hx _ => ⟨dT hr, eq_of_bneF hx⟩)))))))) ) fun hk => e5 _ (h0 hb') (fun h => (by cases h)) fun _ h => by rw [hk] at h; cases h)))
  have e3 : ∀ b : Bool, (b = true → ¬ (h.sl = 0 ∧ (0 ≤ h.rf ∧ h.rf ≤ 255) ∧ (-1 ≤ h.pr ∧ h.pr ≤ 7))) → (b = false → (h.sl = 0 ∧ (0 ≤ h.rf ∧ h.rf ≤ 255) ∧ (-1 ≤ h.pr ∧ h.pr ≤ 7))) → A27_3 (some ⟨2 * j, 0, none⟩) (some ⟨2 * i, 0, none⟩) b N3 (IntK M (er (h.may X w e) : Nat)) := fun b h1 h0 =>
    w27_3 (cn (fun hb' => e4 _ (fun _ hh => h1 hb' ⟨hh.1, hh.2.1, hh.2.2.1⟩) fun h => (by cases h)) fun hb' => ad rfl (on (int_of a3 rfl) (Cn.eq c45 (ty rfl (e4 _ (fun hx hh => dF (nb hx) hh.2.2.2) fun hx => ⟨(h0 hb').1, (h0 hb').2.1, (h0 hb').2.2, dT (nb' hx)⟩)))))
  have e2 : ∀ b : Bool, (b = true → ¬ (h.sl = 0 ∧ (0 ≤ h.rf ∧ h.rf ≤ 255))) → (b = false → (h.sl = 0 ∧ (0 ≤ h.rf ∧ h.rf ≤ 255))) → A27_2 (some ⟨2 * j, 0, none⟩) (some ⟨2 * i, 0, none⟩) b N3 (IntK M (er (h.may X w e) : Nat)) := fun b h1 h0 =>
    w27_2 (cn (fun hb' => e3 _ (fun _ hh => h1 hb' ⟨hh.1, hh.2.1⟩) fun h => (by cases h)) fun hb' => ad rfl (on (int_of a3 rfl) (Cn.eq c45 (ty rfl (e3 _ (fun hx hh => dF (nb hx) hh.2.2) fun hx => ⟨(h0 hb').1, (h0 hb').2, dT (nb' hx)⟩)))))
  exact on (int_of a3 rfl) (cne (fun hs => e2 _ (fun _ hh => hs hh.1) fun h => (by cases h)) fun hs => on (int_of a3 rfl) (Cn.eq c45 (ty rfl (e2 _ (fun hx hh => dF (nb hx) hh.2) fun hx => ⟨hs, dT (nb' hx)⟩))))
end
end Go.Zt
