/- Layer 7: Forward and Inverse of the program. -/
import Derived.Test.YtpfhalehdgcbeaaZgG
set_option linter.unusedSimpArgs false
set_option linter.unusedVariables false
namespace Go.Zt
open Go Go.Sim Go.Proofs Go.RowKit

theorem em22 : Elem Try.prog 22 3 8 (.int .i64 0) := ⟨by kernel_rfl, by kernel_rfl, rfl, by decide, by decide⟩
/-- A row under way: the first ones done, one under way, noughts behind. -/
def outF (res : Nat → Int) (n k : Nat) (acc : Int) : List Int := (List.range n).map fun j => if j < k then res j else if j = k then acc else 0
theorem outF_len (res : Nat → Int) (n k : Nat) (acc : Int) : (outF res n k acc).length = n := by simp [outF]
theorem outF_get {res : Nat → Int} {n k j : Nat} {acc : Int} (h : j < n) : (outF res n k acc)[j]? = some (if j < k then res j else if j = k then acc else 0) := by simp [outF, h]
theorem outF_at {res : Nat → Int} {n k : Nat} {acc : Int} (h : k < n) : (Ints (outF res n k acc))[k]? = some (.int .i64 acc) := by
  rw [List.getElem?_map, outF_get h, if_neg (by omega), if_pos rfl]; rfl
theorem outF_set {res : Nat → Int} {n k : Nat} {acc acc' : Int} : (Ints (outF res n k acc)).set k (.int .i64 acc') = Ints (outF res n k acc') := by
  refine List.ext_getElem? fun j => ?_
  rw [List.getElem?_set]
  rcases Nat.lt_or_ge j n with hj | hj
  · by_cases hjk : k = j
    · subst hjk
      rw [if_pos rfl, if_pos (by rw [List.length_map, outF_len]; exact hj), outF_at hj]
    · rw [if_neg hjk, List.getElem?_map, List.getElem?_map, outF_get hj, outF_get hj]
      rw [show (if j = k then acc else (0 : Int)) = 0 from if_neg fun e => hjk e.symm, show (if j = k then acc' else (0 : Int)) = 0 from if_neg fun e => hjk e.symm]
  · rw [List.getElem?_eq_none (l := Ints (outF res n k acc')) (by rw [List.length_map, outF_len]; omega)]
    split
    · rename_i h; subst h; rw [if_neg (by rw [List.length_map, outF_len]; omega)]
    · rw [List.getElem?_eq_none (by rw [List.length_map, outF_len]; omega)]
theorem outF_next (res : Nat → Int) (n k : Nat) : outF res n k (res k) = outF res n (k + 1) 0 := by
  unfold outF
  refine List.map_congr_left fun j _ => ?_
  rcases Nat.lt_trichotomy j k with h | h | h
  · rw [if_pos h, if_pos (by omega)]
  · rw [if_neg (by omega), if_pos h, if_pos (by omega), h]
  · rw [if_neg (by omega), if_neg (by omega), if_neg (by omega)]; split <;> rfl
theorem outF_zero (res : Nat → Int) (n : Nat) : outF res n 0 0 = List.replicate n 0 := by
  refine List.ext_getElem? fun j => ?_
  rcases Nat.lt_or_ge j n with hj | hj
  · rw [outF_get hj, if_neg (by omega)]; simp [hj]
  · rw [List.getElem?_eq_none (by rw [outF_len]; omega), List.getElem?_eq_none (by simp; omega)]
theorem outF_end (res : Nat → Int) (n : Nat) (acc : Int) : outF res n n acc = (List.range n).map res := by
  unfold outF
  refine List.map_congr_left fun j hj => ?_
  rw [if_pos (List.mem_range.1 hj)]
theorem c54 {x : Int} (hx : -1125899906842624 ≤ x ∧ x ≤ 1125899906842624) {M : Mem} : Cn Try.prog 54 #[.int .i64 x] M fun v N => v = .int .i64 (rnd x) ∧ N = M := by
  refine w54_0 ⟨?_, rfl⟩
  rw [i64w (by omega)]
  unfold rnd
  rw [Int.fdiv_eq_ediv_of_nonneg _ (by decide)]; rfl
theorem gx_at {x : List Int} {i : Nat} (h : i < x.length) : (Ints x)[i]? = some (.int .i64 (gx x i)) := by
  unfold gx
  rw [List.getElem?_map, List.getD_eq_getElem?_getD, List.getElem?_eq_getElem h]; rfl
/-- The products' sums stay small. -/
theorem dotb {f : Nat → Int} {m n : Nat} (hm : m ≤ n) (hn : n ≤ 64) (h : ∀ i, i < n → -(17179869184 : Int) ≤ f i ∧ f i ≤ 17179869184) : -(1099511627776 : Int) ≤ dot f m ∧ dot f m ≤ 1099511627776 := by
  have h1 := dot_b (f := f) (B := 17179869184) (m := m) fun i hi => h i (by omega)
  have h2 : m * 17179869184 ≤ 64 * 17179869184 := Nat.mul_le_mul_right _ (by omega)
  omega
section
variable {M0 : Mem} {A : Option Addr} {n c : Nat} {x : List Int} {kind : Nat} {jr b0 most : Nat} {wv : Value} {Ao : Option Addr} {co : Nat} {Q : Value → Mem → Prop}
theorem mul_near (hx : x.all near = true) (k i : Nat) (j : Nat) : -(17179869184 : Int) ≤ gx x j * wS kind n k i ∧ gx x j * wS kind n k i ≤ 17179869184 := by
  have h1 := gx_near hx j
  have h2 := wS_b kind n k i
  have := mulb (A := 1048576) (B := 16384) h1 h2
  simpa using this
theorem c45_in (hf : M0.floor ≤ M0.nb.size) (hA : Row M0 A (Ints x)) (hn : n = x.length) (h64 : n ≤ 64) (hx : x.all near = true) (ar : M0.nb[jr]? = some (.cells #[.int .i64 (most : Nat), wv] 54)) (hw : Wt b0 M0 wv n (wS kind n)) {k : Nat} (hk : k < n)
    (hE : ∀ M, Keep M0 M → Own (fun j => M0.nb.size ≤ j) M 3 Ao co (Ints (outF (fwdK kind x) n (k + 1) 0)) → A45_1 A n c (some ⟨2 * jr, 0, none⟩) Ao n co (n : Nat) ((k + 1 : Nat) : Int) M Q) :
    ∀ (m i : Nat) {M : Mem}, i + m = n → Keep M0 M → Own (fun j => M0.nb.size ≤ j) M 3 Ao co (Ints (outF (fwdK kind x) n k (dot (fun i => gx x i * wS kind n k i) i))) →
      A45_2 A n c (some ⟨2 * jr, 0, none⟩) Ao n co (k : Nat) (n : Nat) (k : Nat) A n c (n : Nat) (i : Nat) M Q
  | 0, i, M, hi, K, hO => by
    obtain rfl : n = i := by omega
    have hS : ∀ j, M0.nb.size ≤ j → M.floor ≤ j := fun j hj => by rw [K.floor]; exact Nat.le_trans hf hj
    have hd := dotb (f := fun i => gx x i * wS kind n k i) (m := n) (n := n) (Nat.le_refl _) h64 fun i _ => mul_near hx k i i
    obtain ⟨a, i1, i2⟩ := hO.row.int1 (n := n) (i := k) (z := (k : Nat)) (k := .i64) (x := dot (fun i => gx x i * wS kind n k i) n) rfl hk (outF_at hk)
    obtain ⟨a2, i3, M2, p1, C1, _, O1⟩ := hO.put1 hS (n := n) (i := k) (z := (k : Nat)) (v := .int .i64 (rnd (dot (fun i => gx x i * wS kind n k i) n))) rfl hk (by rw [List.length_map, outF_len]; exact hk) rfl
    refine w45_2 ⟨fun h => by omega, fun _ => ⟨_, i1, _, i2, Cn.eq (c54 (by omega)) ⟨_, rfl, _, i3, _, p1, ?_⟩⟩⟩
    rw [i64w (by omega), show ((k : Int) + 1) = ((k + 1 : Nat) : Int) by omega]
    refine hE M2 (Keep.step K C1 fun i hi => hi) ?_
    rw [outF_set] at O1
    have : rnd (dot (fun i => gx x i * wS kind n k i) n) = fwdK kind x k := by unfold fwdK; rw [← hn]
    rw [this, outF_next] at O1
    exact O1
  | m + 1, i, M, hi, K, hO => by
    have hin : i < n := by omega
    have hS : ∀ j, M0.nb.size ≤ j → M.floor ≤ j := fun j hj => by rw [K.floor]; exact Nat.le_trans hf hj
    have hd := dotb (f := fun i => gx x i * wS kind n k i) (m := i) (n := n) (by omega) h64 fun i _ => mul_near hx k i i
    have hm := mul_near (n := n) (kind := kind) hx k i i
    obtain ⟨a, i1, i2⟩ := (hA.keep K).int1 (n := n) (i := i) (z := (i : Nat)) (k := .i64) (x := gx x i) rfl hin (gx_at (by omega))
    obtain ⟨a', i1', i2'⟩ := hO.row.int1 (n := n) (i := k) (z := (k : Nat)) (k := .i64) (x := dot (fun i => gx x i * wS kind n k i) i) rfl hk (outF_at hk)
    obtain ⟨q, hq, hc⟩ := hw.2 k i hk hin
    obtain ⟨a2, i3, M2, p1, C1, _, O1⟩ := hO.put1 hS (n := n) (i := k) (z := (k : Nat)) (v := .int .i64 (dot (fun i => gx x i * wS kind n k i) (i + 1))) rfl hk (by rw [List.length_map, outF_len]; exact hk) rfl
    refine w45_2 ⟨fun _ => ⟨_, i1, _, i2, _, i1', _, i2', _, rfl, _, cell_of (at_keep ar K), q, hq, Cn.mono (hc { M with floor := M.nb.size } ((Kp.of K).fl)) ?_⟩, fun h => by omega⟩
    rintro v N ⟨rfl, rfl⟩
    refine ⟨_, rfl, _, i3, ?_⟩
    have es : IntKind.i64.wrap (dot (fun i => gx x i * wS kind n k i) i + IntKind.i64.wrap (gx x i * wS kind n k i)) = dot (fun i => gx x i * wS kind n k i) (i + 1) := by
      rw [i64w (x := gx x i * wS kind n k i) (by omega), i64w (by omega)]; rfl
    rw [es]
    refine ⟨_, p1, ?_⟩
    rw [i64w (by omega), show ((i : Int) + 1) = ((i + 1 : Nat) : Int) by omega]
    rw [outF_set] at O1
    exact c45_in hf hA hn h64 hx ar hw hk hE m (i + 1) (by omega) (Keep.step K C1 fun i hi => hi) O1
theorem c45_out (hf : M0.floor ≤ M0.nb.size) (hA : Row M0 A (Ints x)) (hn : n = x.length) (h64 : n ≤ 64) (hx : x.all near = true) (ar : M0.nb[jr]? = some (.cells #[.int .i64 (most : Nat), wv] 54)) (hw : Wt b0 M0 wv n (wS kind n))
    (hQ : ∀ M, Keep M0 M → Own (fun j => M0.nb.size ≤ j) M 3 Ao co (Ints ((List.range n).map (fwdK kind x))) → Q (.tuple #[.slice Ao n co, .int .i64 0]) M) :
    ∀ (m k : Nat) {M : Mem}, k + m = n → Keep M0 M → Own (fun j => M0.nb.size ≤ j) M 3 Ao co (Ints (outF (fwdK kind x) n k 0)) → A45_1 A n c (some ⟨2 * jr, 0, none⟩) Ao n co (n : Nat) (k : Nat) M Q
  | 0, k, M, hk, K, hO => by
    obtain rfl : n = k := by omega
    rw [outF_end] at hO
    exact w45_1 ⟨fun h => by omega, fun _ => hQ M K hO⟩
  | m + 1, k, M, hk, K, hO =>
    w45_1 ⟨fun _ => c45_in hf hA hn h64 hx ar hw (show k < n by omega) (fun M2 K2 O2 => c45_out hf hA hn h64 hx ar hw hQ m (k + 1) (by omega) K2 O2) n 0 (Nat.zero_add _) K hO, fun h => by omega⟩
theorem c33_in (hf : M0.floor ≤ M0.nb.size) (hA : Row M0 A (Ints x)) (hn : n = x.length) (h64 : n ≤ 64) (hx : x.all near = true) (ar : M0.nb[jr]? = some (.cells #[.int .i64 (most : Nat), wv] 54)) (hw : Wt b0 M0 wv n (wS kind n)) {i : Nat} (hi : i < n)
    (hE : ∀ M, Keep M0 M → Own (fun j => M0.nb.size ≤ j) M 3 Ao co (Ints (outF (invK kind x) n (i + 1) 0)) → A33_1 A n c (some ⟨2 * jr, 0, none⟩) Ao n co (n : Nat) ((i + 1 : Nat) : Int) M Q) :
    ∀ (m k : Nat) {M : Mem}, k + m = n → Keep M0 M → Own (fun j => M0.nb.size ≤ j) M 3 Ao co (Ints (outF (invK kind x) n i (dot (fun k => gx x k * wS kind n k i) k))) →
      A33_2 A n c (some ⟨2 * jr, 0, none⟩) Ao n co (i : Nat) (n : Nat) (i : Nat) A n c (n : Nat) (k : Nat) M Q
  | 0, k, M, hk, K, hO => by
    obtain rfl : n = k := by omega
    have hS : ∀ j, M0.nb.size ≤ j → M.floor ≤ j := fun j hj => by rw [K.floor]; exact Nat.le_trans hf hj
    have hd := dotb (f := fun k => gx x k * wS kind n k i) (m := n) (n := n) (Nat.le_refl _) h64 fun k _ => mul_near hx k i k
    obtain ⟨a, i1, i2⟩ := hO.row.int1 (n := n) (i := i) (z := (i : Nat)) (k := .i64) (x := dot (fun k => gx x k * wS kind n k i) n) rfl hi (outF_at hi)
    obtain ⟨a2, i3, M2, p1, C1, _, O1⟩ := hO.put1 hS (n := n) (i := i) (z := (i : Nat)) (v := .int .i64 (rnd (dot (fun k => gx x k * wS kind n k i) n))) rfl hi (by rw [List.length_map, outF_len]; exact hi) rfl
    refine w33_2 ⟨fun h => by omega, fun _ => ⟨_, i1, _, i2, Cn.eq (c54 (by omega)) ⟨_, rfl, _, i3, _, p1, ?_⟩⟩⟩
    rw [i64w (by omega), show ((i : Int) + 1) = ((i + 1 : Nat) : Int) by omega]
    refine hE M2 (Keep.step K C1 fun i hi => hi) ?_
    rw [outF_set] at O1
    have : rnd (dot (fun k => gx x k * wS kind n k i) n) = invK kind x i := by unfold invK; rw [← hn]
    rw [this, outF_next] at O1
    exact O1
  | m + 1, k, M, hk, K, hO => by
    have hin : k < n := by omega
    have hS : ∀ j, M0.nb.size ≤ j → M.floor ≤ j := fun j hj => by rw [K.floor]; exact Nat.le_trans hf hj
    have hd := dotb (f := fun k => gx x k * wS kind n k i) (m := k) (n := n) (by omega) h64 fun k _ => mul_near hx k i k
    have hm := mul_near (n := n) (kind := kind) hx k i k
    obtain ⟨a, i1, i2⟩ := (hA.keep K).int1 (n := n) (i := k) (z := (k : Nat)) (k := .i64) (x := gx x k) rfl hin (gx_at (by omega))
    refine w33_2 ⟨fun _ => ⟨_, i1, _, i2, fun hne => ?_, fun h0 => w33_3 ?_⟩, fun h => by omega⟩
    · obtain ⟨a', i1', i2'⟩ := hO.row.int1 (n := n) (i := i) (z := (i : Nat)) (k := .i64) (x := dot (fun k => gx x k * wS kind n k i) k) rfl hi (outF_at hi)
      obtain ⟨q, hq, hc⟩ := hw.2 k i hin hi
      obtain ⟨a2, i3, M2, p1, C1, _, O1⟩ := hO.put1 hS (n := n) (i := i) (z := (i : Nat)) (v := .int .i64 (dot (fun k => gx x k * wS kind n k i) (k + 1))) rfl hi (by rw [List.length_map, outF_len]; exact hi) rfl
      refine ⟨_, i1', _, i2', _, rfl, _, cell_of (at_keep ar K), q, hq, Cn.mono (hc { M with floor := M.nb.size } ((Kp.of K).fl)) ?_⟩
      rintro v N ⟨rfl, rfl⟩
      refine ⟨_, rfl, _, i3, ?_⟩
      have es : IntKind.i64.wrap (dot (fun k => gx x k * wS kind n k i) k + IntKind.i64.wrap (gx x k * wS kind n k i)) = dot (fun k => gx x k * wS kind n k i) (k + 1) := by
        rw [i64w (x := gx x k * wS kind n k i) (by omega), i64w (by omega)]; rfl
      rw [es]
      refine ⟨_, p1, w33_3 ?_⟩
      rw [i64w (by omega), show ((k : Int) + 1) = ((k + 1 : Nat) : Int) by omega]
      rw [outF_set] at O1
      exact c33_in hf hA hn h64 hx ar hw hi hE m (k + 1) (by omega) (Keep.step K C1 fun i hi => hi) O1
    · rw [i64w (by omega), show ((k : Int) + 1) = ((k + 1 : Nat) : Int) by omega]
      have e0 : dot (fun k => gx x k * wS kind n k i) (k + 1) = dot (fun k => gx x k * wS kind n k i) k := by
        have h0 : gx x k = 0 := h0
        simp only [dot, h0, Int.zero_mul, Int.add_zero]
      rw [← e0] at hO
      exact c33_in hf hA hn h64 hx ar hw hi hE m (k + 1) (by omega) K hO
theorem c33_out (hf : M0.floor ≤ M0.nb.size) (hA : Row M0 A (Ints x)) (hn : n = x.length) (h64 : n ≤ 64) (hx : x.all near = true) (ar : M0.nb[jr]? = some (.cells #[.int .i64 (most : Nat), wv] 54)) (hw : Wt b0 M0 wv n (wS kind n))
    (hQ : ∀ M, Keep M0 M → Own (fun j => M0.nb.size ≤ j) M 3 Ao co (Ints ((List.range n).map (invK kind x))) → Q (.tuple #[.slice Ao n co, .int .i64 0]) M) :
    ∀ (m k : Nat) {M : Mem}, k + m = n → Keep M0 M → Own (fun j => M0.nb.size ≤ j) M 3 Ao co (Ints (outF (invK kind x) n k 0)) → A33_1 A n c (some ⟨2 * jr, 0, none⟩) Ao n co (n : Nat) (k : Nat) M Q
  | 0, k, M, hk, K, hO => by
    obtain rfl : n = k := by omega
    rw [outF_end] at hO
    exact w33_1 ⟨fun h => by omega, fun _ => hQ M K hO⟩
  | m + 1, k, M, hk, K, hO =>
    w33_1 ⟨fun _ => c33_in hf hA hn h64 hx ar hw (show k < n by omega) (fun M2 K2 O2 => c33_out hf hA hn h64 hx ar hw hQ m (k + 1) (by omega) K2 O2) n 0 (Nat.zero_add _) K hO, fun h => by omega⟩
end
/-- What a transform comes to. -/
def TfR (M0 : Mem) (q : List Int × Nat) : Value → Mem → Prop := fun v N =>
  ∃ A c, v = .tuple #[.slice A q.1.length c, .int .i64 (q.2 : Nat)] ∧ Keep M0 N ∧ Own (fun j => M0.nb.size ≤ j) N 3 A c (Ints q.1) ∧ q.1.length ≤ c
theorem fnil_func {f : Fn} {a b : Array Value} : fnilV Try.prog 33 (.func f a b) = some false := by kernel_rfl
theorem fnil_nil : fnilV Try.prog 33 .nilFunc = some true := by kernel_rfl
section
variable {M : Mem} {A : Option Addr} {n c : Nat} {x : List Int} {kind : Int}
theorem c57 {a b c d : Int} (ha : -1048576 ≤ a ∧ a ≤ 1048576) (hb : -1048576 ≤ b ∧ b ≤ 1048576) (hc : -1048576 ≤ c ∧ c ≤ 1048576) (hd : -1048576 ≤ d ∧ d ≤ 1048576) :
    Cn Try.prog 57 #[.int .i64 a, .int .i64 b, .int .i64 c, .int .i64 d] M fun v N => v = .slice (some ⟨2 * M.nb.size, 0, none⟩) 4 4 ∧ N = M.new (.cells (Ints (forthS a b c d)).toArray 3) := by
  refine w57_0 ⟨rfl, ?_⟩
  have e1 : IntKind.i64.wrap (a + b) = a + b := i64w (by omega)
  have e2 : IntKind.i64.wrap (d - c) = d - c := i64w (by omega)
  have e3 : IntKind.i64.wrap (a + b - (d - c)) = a + b - (d - c) := i64w (by omega)
  have e4 : (a + b - (d - c)).fdiv (2 ^ 1) = (a + b - (d - c)) / 2 := by rw [Int.fdiv_eq_ediv_of_nonneg _ (by decide)]; rfl
  rw [e1, e2, e3, e4]
  have e5 : IntKind.i64.wrap ((a + b - (d - c)) / 2 - c) = (a + b - (d - c)) / 2 - c := i64w (by omega)
  have e6 : IntKind.i64.wrap ((a + b - (d - c)) / 2 - b) = (a + b - (d - c)) / 2 - b := i64w (by omega)
  rw [e5, e6, i64w (x := a + b - ((a + b - (d - c)) / 2 - c)) (by omega), i64w (x := d - c + ((a + b - (d - c)) / 2 - b)) (by omega)]
  rfl
theorem c53 {a b c d : Int} (ha : -1048576 ≤ a ∧ a ≤ 1048576) (hb : -1048576 ≤ b ∧ b ≤ 1048576) (hc : -1048576 ≤ c ∧ c ≤ 1048576) (hd : -1048576 ≤ d ∧ d ≤ 1048576) :
    Cn Try.prog 53 #[.int .i64 a, .int .i64 b, .int .i64 c, .int .i64 d] M fun v N => v = .slice (some ⟨2 * M.nb.size, 0, none⟩) 4 4 ∧ N = M.new (.cells (Ints (backS a b c d)).toArray 3) := by
  refine w53_0 ⟨rfl, ?_⟩
  have e1 : IntKind.i64.wrap (a + b) = a + b := i64w (by omega)
  have e2 : IntKind.i64.wrap (c - d) = c - d := i64w (by omega)
  have e3 : IntKind.i64.wrap (a + b - (c - d)) = a + b - (c - d) := i64w (by omega)
  have e4 : (a + b - (c - d)).fdiv (2 ^ 1) = (a + b - (c - d)) / 2 := by rw [Int.fdiv_eq_ediv_of_nonneg _ (by decide)]; rfl
  rw [e1, e2, e3, e4]
  have e5 : IntKind.i64.wrap ((a + b - (c - d)) / 2 - d) = (a + b - (c - d)) / 2 - d := i64w (by omega)
  have e6 : IntKind.i64.wrap ((a + b - (c - d)) / 2 - b) = (a + b - (c - d)) / 2 - b := i64w (by omega)
  rw [e5, e6, i64w (x := a + b - ((a + b - (c - d)) / 2 - d)) (by omega), i64w (x := c - d + ((a + b - (c - d)) / 2 - b)) (by omega)]
  rfl
theorem made {M1 : Mem} (h64 : n ≤ 64) : ∃ A' M2, makeP Try.prog 22 (.int .i64 (n : Nat)) (.int .i64 (n : Nat)) M1 = some (.slice A' n n, M2) ∧ Keep M1 M2 ∧ Own (fun j => M1.nb.size ≤ j) M2 3 A' n (Ints (List.replicate n 0)) := by
  obtain ⟨A', M2, g1, g2, g3, g4⟩ := make_own em22 (S := fun j => M1.nb.size ≤ j) (M := M1) (k := .i64) (k' := .i64) (l := (n : Nat)) (c := (n : Nat)) (by omega) (Int.le_refl _) (by omega) (Nat.le_refl _)
  refine ⟨A', M2, g1, Keep.step (.refl _) g2 fun j hj => hj, ?_⟩
  rw [Ints, List.map_replicate]; exact g4
theorem c45 (hf : M.floor ≤ M.nb.size) (hA : Row M A (Ints x)) (hn : n = x.length) (hb : n ≤ 1048576) : Cn Try.prog 45 #[.int .i64 kind, .slice A n c] M (TfR M (fwdQ kind x)) := by
  refine w45_0 (Cn.mono (c52 hf hA hn hb) ?_)
  rintro v N ⟨most, wv, rfl, h1, K1, hK⟩
  have hfN : N.floor ≤ N.nb.size := by rw [K1.floor]; exact Nat.le_trans hf K1.size
  have z0 := Mem.new_at N (.cells #[.int .i64 0, .nilFunc] 54)
  obtain ⟨R1, p1, R2, p2, C2, a2⟩ := set2c z0 hfN (x := .int .i64 (most : Nat)) (y := wv) rfl h1
  have KR : Keep N R2 := Keep.step (Chg.new (S := fun _ => False) N _) C2 fun i hi => by omega
  have K2 := K1.trans KR
  have hf2 : R2.floor ≤ R2.nb.size := by rw [K2.floor]; exact Nat.le_trans hf K2.size
  have hK2 := hK.kp (Kp.of KR)
  refine ⟨_, rfl, _, rfl, _, rfl, _, rfl, _, p1, _, p2, fun hbad => ?_, fun hgood => ?_⟩
  · have hbad := nb hbad
    unfold fwdQ
    rw [hbad]
    exact ⟨none, 0, rfl, K2, Own.empty, Nat.le_refl _⟩
  have hgood := nb' hgood
  unfold fwdQ
  rw [hgood]
  unfold mayB at hgood
  rw [Bool.and_eq_true] at hgood
  obtain ⟨hl, hx⟩ := hgood
  have h64 := lenB_le hl
  have hmx : max x.length 1 = n := by omega
  rw [hmx] at hK2
  have hA2 := hA.keep K2
  have loop : ∀ (kd : Nat), kind = kd → kd ≠ 3 → Wt (M.nb.size + 1) R2 wv n (wS kd n) → fnilV Try.prog 33 wv = some false ∧ ∃ r20', makeP Try.prog 22 (.int .i64 ((n : Int))) (.int .i64 ((n : Int))) R2 = some r20' ∧ ∃ s21', asS r20'.1 = some s21' ∧
       A45_1 A n c (some ⟨2 * N.nb.size, 0, none⟩) s21'.1 s21'.2.1 s21'.2.2 (s21'.2.1 : Int) 0 r20'.2 (TfR M (fwdS kind.toNat x, 0)) := by
    intro kd hkd hk3 hw
    obtain ⟨f, a, b, hwv⟩ := hw.1
    obtain ⟨A', M2, g1, g2, g3⟩ := made (M1 := R2) (n := n) (by omega)
    refine ⟨by rw [hwv]; exact fnil_func, _, g1, _, rfl, ?_⟩
    rw [← outF_zero (fwdK kd x)] at g3
    refine c45_out (kind := kd) hf2 hA2 hn (by omega) hx a2 hw (fun M3 K3 O3 => ?_) n 0 (Nat.zero_add _) g2 g3
    have hs : fwdS kind.toNat x = (List.range n).map (fwdK kd x) := by
      unfold fwdS
      rw [hkd, Int.toNat_natCast, if_neg hk3, ← hn]
    rw [hs]
    have hc := O3.cap
    rw [List.length_map, List.length_map, List.length_range] at hc
    exact ⟨A', n, by simp, K2.trans K3, O3.mono fun i _ hi => Nat.le_trans K2.size hi, by simp⟩
  rcases hK2 with ⟨h0, _, hw⟩ | ⟨h0, _, hw⟩ | ⟨h0, _, hw⟩ | ⟨h0, _, hw⟩ | ⟨g0, g1, g2, g3, _, _⟩
  · obtain ⟨hn2, hr⟩ := loop 0 h0 (by decide) (hw (by omega))
    exact ⟨_, cell_of a2, false, hn2, fun h => (by cases h), fun _ => hr⟩
  · obtain ⟨hn2, hr⟩ := loop 1 h0 (by decide) (hw (by omega))
    exact ⟨_, cell_of a2, false, hn2, fun h => (by cases h), fun _ => hr⟩
  · obtain ⟨hn2, hr⟩ := loop 2 h0 (by decide) (hw (by omega))
    exact ⟨_, cell_of a2, false, hn2, fun h => (by cases h), fun _ => hr⟩
  · subst h0
    subst hw
    have hx4 : x.length = 4 := by unfold lenB at hl; simpa using hl
    have rd : ∀ {z : Int} {i : Nat}, z = (i : Int) → i < 4 → ∃ a, idxA A n 1 z = some a ∧ R2.intAt .i64 a.block a.off = some (gx x i) := fun hz hi => hA2.int1 hz (by omega) (gx_at (by omega))
    obtain ⟨b0, i0, j0⟩ := rd (z := 0) (i := 0) rfl (by decide)
    obtain ⟨b1, i1, j1⟩ := rd (z := 1) (i := 1) rfl (by decide)
    obtain ⟨b2, i2, j2⟩ := rd (z := 2) (i := 2) rfl (by decide)
    obtain ⟨b3, i3, j3⟩ := rd (z := 3) (i := 3) rfl (by decide)
    refine ⟨_, cell_of a2, true, fnil_nil, fun _ => ⟨_, i0, _, j0, _, i1, _, j1, _, i2, _, j2, _, i3, _, j3, Cn.mono (c57 (gx_near hx 0) (gx_near hx 1) (gx_near hx 2) (gx_near hx 3)) ?_⟩, fun h => (by cases h)⟩
    rintro v N ⟨rfl, rfl⟩
    have hs : fwdS (3 : Int).toNat x = forthS (gx x 0) (gx x 1) (gx x 2) (gx x 3) := rfl
    rw [hs]
    refine ⟨_, rfl, some ⟨2 * R2.nb.size, 0, none⟩, 4, rfl, K2.trans (.new _ _), ?_, Nat.le_refl _⟩
    exact (Own.fresh (S := fun j => M.nb.size ≤ j) (M := R2) (e := 3) (L := Ints (forthS (gx x 0) (gx x 1) (gx x 2) (gx x 3))) K2.size)
  · exfalso
    unfold lenB at hl
    rw [if_neg g0, if_neg g1, if_neg g2, if_neg g3] at hl
    cases hl
theorem c33 (hf : M.floor ≤ M.nb.size) (hA : Row M A (Ints x)) (hn : n = x.length) (hb : n ≤ 1048576) : Cn Try.prog 33 #[.int .i64 kind, .slice A n c] M (TfR M (invQ kind x)) := by
  refine w33_0 (Cn.mono (c52 hf hA hn hb) ?_)
  rintro v N ⟨most, wv, rfl, h1, K1, hK⟩
  have hfN : N.floor ≤ N.nb.size := by rw [K1.floor]; exact Nat.le_trans hf K1.size
  have z0 := Mem.new_at N (.cells #[.int .i64 0, .nilFunc] 54)
  obtain ⟨R1, p1, R2, p2, C2, a2⟩ := set2c z0 hfN (x := .int .i64 (most : Nat)) (y := wv) rfl h1
  have KR : Keep N R2 := Keep.step (Chg.new (S := fun _ => False) N _) C2 fun i hi => by omega
  have K2 := K1.trans KR
  have hf2 : R2.floor ≤ R2.nb.size := by rw [K2.floor]; exact Nat.le_trans hf K2.size
  have hK2 := hK.kp (Kp.of KR)
  refine ⟨_, rfl, _, rfl, _, rfl, _, rfl, _, p1, _, p2, fun hbad => ?_, fun hgood => ?_⟩
  · have hbad := nb hbad
    unfold invQ
    rw [hbad]
    exact ⟨none, 0, rfl, K2, Own.empty, Nat.le_refl _⟩
  have hgood := nb' hgood
  unfold invQ
  rw [hgood]
  unfold mayB at hgood
  rw [Bool.and_eq_true] at hgood
  obtain ⟨hl, hx⟩ := hgood
  have h64 := lenB_le hl
  have hmx : max x.length 1 = n := by omega
  rw [hmx] at hK2
  have hA2 := hA.keep K2
  have loop : ∀ (kd : Nat), kind = kd → kd ≠ 3 → Wt (M.nb.size + 1) R2 wv n (wS kd n) → fnilV Try.prog 33 wv = some false ∧ ∃ r20', makeP Try.prog 22 (.int .i64 ((n : Int))) (.int .i64 ((n : Int))) R2 = some r20' ∧ ∃ s21', asS r20'.1 = some s21' ∧
       A33_1 A n c (some ⟨2 * N.nb.size, 0, none⟩) s21'.1 s21'.2.1 s21'.2.2 (s21'.2.1 : Int) 0 r20'.2 (TfR M (invS kind.toNat x, 0)) := by
    intro kd hkd hk3 hw
    obtain ⟨f, a, b, hwv⟩ := hw.1
    obtain ⟨A', M2, g1, g2, g3⟩ := made (M1 := R2) (n := n) (by omega)
    refine ⟨by rw [hwv]; exact fnil_func, _, g1, _, rfl, ?_⟩
    rw [← outF_zero (invK kd x)] at g3
    refine c33_out (kind := kd) hf2 hA2 hn (by omega) hx a2 hw (fun M3 K3 O3 => ?_) n 0 (Nat.zero_add _) g2 g3
    have hs : invS kind.toNat x = (List.range n).map (invK kd x) := by
      unfold invS
      rw [hkd, Int.toNat_natCast, if_neg hk3, ← hn]
    rw [hs]
    exact ⟨A', n, by simp, K2.trans K3, O3.mono fun i _ hi => Nat.le_trans K2.size hi, by simp⟩
  rcases hK2 with ⟨h0, _, hw⟩ | ⟨h0, _, hw⟩ | ⟨h0, _, hw⟩ | ⟨h0, _, hw⟩ | ⟨g0, g1, g2, g3, _, _⟩
  · obtain ⟨hn2, hr⟩ := loop 0 h0 (by decide) (hw (by omega))
    exact ⟨_, cell_of a2, false, hn2, fun h => (by cases h), fun _ => hr⟩
  · obtain ⟨hn2, hr⟩ := loop 1 h0 (by decide) (hw (by omega))
    exact ⟨_, cell_of a2, false, hn2, fun h => (by cases h), fun _ => hr⟩
  · obtain ⟨hn2, hr⟩ := loop 2 h0 (by decide) (hw (by omega))
    exact ⟨_, cell_of a2, false, hn2, fun h => (by cases h), fun _ => hr⟩
  · subst h0
    subst hw
    have hx4 : x.length = 4 := by unfold lenB at hl; simpa using hl
    have rd : ∀ {z : Int} {i : Nat}, z = (i : Int) → i < 4 → ∃ a, idxA A n 1 z = some a ∧ R2.intAt .i64 a.block a.off = some (gx x i) := fun hz hi => hA2.int1 hz (by omega) (gx_at (by omega))
    obtain ⟨b0, i0, j0⟩ := rd (z := 0) (i := 0) rfl (by decide)
    obtain ⟨b1, i1, j1⟩ := rd (z := 1) (i := 1) rfl (by decide)
    obtain ⟨b2, i2, j2⟩ := rd (z := 2) (i := 2) rfl (by decide)
    obtain ⟨b3, i3, j3⟩ := rd (z := 3) (i := 3) rfl (by decide)
    refine ⟨_, cell_of a2, true, fnil_nil, fun _ => ⟨_, i0, _, j0, _, i1, _, j1, _, i2, _, j2, _, i3, _, j3, Cn.mono (c53 (gx_near hx 0) (gx_near hx 1) (gx_near hx 2) (gx_near hx 3)) ?_⟩, fun h => (by cases h)⟩
    rintro v N ⟨rfl, rfl⟩
    have hs : invS (3 : Int).toNat x = backS (gx x 0) (gx x 1) (gx x 2) (gx x 3) := rfl
    rw [hs]
    refine ⟨_, rfl, some ⟨2 * R2.nb.size, 0, none⟩, 4, rfl, K2.trans (.new _ _), ?_, Nat.le_refl _⟩
    exact (Own.fresh (S := fun j => M.nb.size ≤ j) (M := R2) (e := 3) (L := Ints (backS (gx x 0) (gx x 1) (gx x 2) (gx x 3))) K2.size)
  · exfalso
    unfold lenB at hl
    rw [if_neg g0, if_neg g1, if_neg g2, if_neg g3] at hl
    cases hl
end
end Go.Zt

