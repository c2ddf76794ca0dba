import Derived.Test.YtemgbakjlbdibaaPH
import Derived.Test.YtemgbakjlbdibaaGtr
import Derived.Test.YtemgbakjlbdibaaGm
namespace Go.Proofs.Ytemgbakjlbdibaa.QB
open Go.RowKit Go.Joins Go.ChangeShapes Go.WideShapes Go.Proofs.YtemgbakjlbdibaaW.PrintWords
set_option linter.unusedVariables false
theorem isRef_lt {L : List Bool} {x : Int} (h : G.isRefB L x = true) : x < (L.length : Int) := by
  unfold G.isRefB at h
  simp only [Bool.or_eq_true, beq_iff_eq, Bool.and_eq_true, decide_eq_true_eq] at h
  rcases h with h | ⟨h0, h1⟩
  · omega
  · by_cases hk : x.toNat < L.length
    · omega
    · rw [getD_neg (by omega)] at h1; cases h1
theorem good_parts {F : List (List Int)} {L : List Bool} {R : List Int} (h : G.goodHeapB F L R 12 = true) :
    F.length ≤ 12 ∧ L.length = F.length ∧ R.length ≤ 4 ∧ (∀ f ∈ F, f.length ≤ 3 ∧ ∀ x ∈ f, G.isRefB L x = true) ∧ ∀ x ∈ R, G.isRefB L x = true := by
  unfold G.goodHeapB at h
  simp only [Bool.and_eq_true, decide_eq_true_eq, List.all_eq_true, List.mem_range] at h
  obtain ⟨⟨⟨⟨h1, h2⟩, h3⟩, h4⟩, h5⟩ := h
  refine ⟨by omega, h2, h3, fun f hf => ?_, h5⟩
  obtain ⟨k, hk, rfl⟩ := List.getElem_of_mem hf
  have := h4 k hk
  simp only [List.getD_eq_getElem?_getD, List.getElem?_eq_getElem hk, Option.getD_some] at this
  exact ⟨this.1.1, this.2⟩
theorem good_ok {F : List (List Int)} {L : List Bool} {R : List Int} (h : G.goodHeapB F L R 12 = true) : G.ReachOk F R := by
  obtain ⟨h1, h2, h3, h4, h5⟩ := good_parts h
  exact ⟨by omega, fun x hx => by rw [← h2]; exact isRef_lt (h5 x hx), fun f hf => ⟨(h4 f hf).1, fun x hx => by rw [← h2]; exact isRef_lt ((h4 f hf).2 x hx)⟩⟩
theorem good_okFrom {F : List (List Int)} {L : List Bool} {R : List Int} (h : G.goodHeapB F L R 12 = true) : G.okFrom F R = true :=
  G.okFrom_iff.2 ⟨good_ok h, by have := (good_parts h).2.2.1; omega⟩
theorem counts_put (n : Nat) (ys : List Int) (x : Int) (hy : ys.length ≤ 1000) (hx : x < (n : Int)) (h0 : 0 ≤ x) :
    (G.countsB n ys).set x.toNat (wrap64 (rd (G.countsB n ys) x + 1)) = G.countsB n (ys ++ [x]) := by
  obtain ⟨k, rfl⟩ := Int.eq_ofNat_of_zero_le h0
  have hb := G.countsB_le n ys k
  have e : rd (G.countsB n ys) (k : Int) = (G.countsB n ys).getD k 0 := by unfold rd; simp
  rw [e, wrap_in (by omega) (by omega), Int.toNat_natCast, G.countsB_snoc n ys k (by omega)]
theorem counts_l2 (n : Nat) (F : List (List Int)) (j : Int) (row : List Int) (hrow : ∀ x ∈ row, x < (n : Int)) (d : Nat) : ∀ (i k m : Nat) (ys : List Int), i ≤ row.length → row.length - i = d → d + 1 + m ≤ k → ys.length + row.length ≤ 1000 →
    ∃ k', m ≤ k' ∧ spec_l14Counts.l2 k (G.countsB n (ys ++ row.take i)) F F.length j row row.length i = spec_l14Counts.l1 k' (G.countsB n (ys ++ row)) F F.length (wrap64 (j + 1)) := by
  induction d with
  | zero =>
    intro i k m ys hi hd hk hy
    obtain ⟨k, rfl⟩ : ∃ m, k = m + 1 := ⟨k - 1, by omega⟩
    obtain rfl : i = row.length := by omega
    refine ⟨k, by omega, ?_⟩
    simp only [spec_l14Counts.l2]
    rw [if_neg (by omega), List.take_length]
  | succ d ih =>
    intro i k m ys hi hd hk hy
    obtain ⟨k, rfl⟩ : ∃ m, k = m + 1 := ⟨k - 1, by omega⟩
    have hlt : i < row.length := by omega
    obtain ⟨k', hk', e⟩ := ih (i + 1) k m ys (by omega) (by omega) (by omega) hy
    refine ⟨k', hk', ?_⟩
    rw [← e]
    have hc : ((i : Int) + 1) = ((i + 1 : Nat) : Int) := by omega
    have ht : ys ++ row.take (i + 1) = (ys ++ row.take i) ++ [row[i]] := by rw [List.take_succ_eq_append_getElem hlt, List.append_assoc]
    have hx := hrow row[i] (List.getElem_mem hlt)
    simp only [spec_l14Counts.l2]
    rw [if_pos (by omega), if_pos (by omega), if_pos (by omega), rd_at row i hlt, wrap_in (x := (i : Int) + 1) (by omega) (by omega), hc, ht]
    by_cases h0 : 0 ≤ row[i]
    · rw [if_pos (show row[i] ≥ 0 from h0), if_pos h0, if_pos (by rw [G.countsB_length]; exact hx), counts_put n _ _ (by rw [List.length_append, List.length_take]; omega) hx h0]
    · rw [if_neg (show ¬ row[i] ≥ 0 from h0), G.countsB_neg n _ _ (by omega)]
theorem counts_l1 (n : Nat) (F : List (List Int)) (hF : F.length ≤ 12) (hrows : ∀ f ∈ F, f.length ≤ 3 ∧ ∀ x ∈ f, x < (n : Int)) (d : Nat) : ∀ (j k : Nat) (ys : List Int), j ≤ F.length → F.length - j = d → d * 6 + 1 < k → ys.length + 4 * d ≤ 900 →
    spec_l14Counts.l1 k (G.countsB n ys) F F.length j = some (G.countsB n (ys ++ (F.drop j).flatten)) := by
  induction d with
  | zero =>
    intro j k ys hj hd hk hy
    obtain ⟨k, rfl⟩ : ∃ m, k = m + 1 := ⟨k - 1, by omega⟩
    obtain rfl : j = F.length := by omega
    simp only [spec_l14Counts.l1]
    rw [if_neg (by omega), List.drop_length]; simp
  | succ d ih =>
    intro j k ys hj hd hk hy
    obtain ⟨k, rfl⟩ : ∃ m, k = m + 1 := ⟨k - 1, by omega⟩
    have hlt : j < F.length := by omega
    have hr := hrows F[j] (List.getElem_mem hlt)
    obtain ⟨k', hk', e⟩ := counts_l2 n F j F[j] hr.2 F[j].length 0 k (d * 6 + 2) ys (by omega) (by omega) (by omega) (by omega)
    have hc : ((j : Int) + 1) = ((j + 1 : Nat) : Int) := by omega
    rw [List.take_zero, List.append_nil, wrap_in (by omega) (by omega), hc] at e
    have n1 := ih (j + 1) k' (ys ++ F[j]) (by omega) (by omega) (by omega) (by rw [List.length_append]; omega)
    simp only [spec_l14Counts.l1]
    rw [if_pos (by omega), if_pos (by omega), if_pos (by omega), rdL2_at F j hlt, show (0 : Int) = ((0 : Nat) : Int) from rfl, e, n1, List.drop_eq_getElem_cons hlt, List.flatten_cons, List.append_assoc]
theorem counts_l0 (n : Nat) (F : List (List Int)) (L : List Bool) (R0 R : List Int) (hF : F.length ≤ 12) (hrows : ∀ f ∈ F, f.length ≤ 3 ∧ ∀ x ∈ f, x < (n : Int)) (hR : R.length ≤ 4) (hroots : ∀ x ∈ R, x < (n : Int)) (d : Nat) : ∀ (i k : Nat), i ≤ R.length → R.length - i = d → d + 100 < k →
    spec_l14Counts.l0 k (G.countsB n (R.take i)) R R.length i F L R0 = some (G.countsB n (R ++ F.flatten)) := by
  induction d with
  | zero =>
    intro i k hi hd hk
    obtain ⟨k, rfl⟩ : ∃ m, k = m + 1 := ⟨k - 1, by omega⟩
    obtain rfl : i = R.length := by omega
    simp only [spec_l14Counts.l0]
    have := counts_l1 n F hF hrows F.length 0 k R (by omega) (by omega) (by omega) (by omega)
    rw [if_neg (by omega), List.take_length, show (0 : Int) = ((0 : Nat) : Int) from rfl, this, List.drop_zero]
  | succ d ih =>
    intro i k hi hd hk
    obtain ⟨k, rfl⟩ : ∃ m, k = m + 1 := ⟨k - 1, by omega⟩
    have hlt : i < R.length := by omega
    have hc : ((i : Int) + 1) = ((i + 1 : Nat) : Int) := by omega
    have ht : R.take (i + 1) = R.take i ++ [R[i]] := List.take_succ_eq_append_getElem hlt
    have hx := hroots R[i] (List.getElem_mem hlt)
    have n1 := ih (i + 1) k (by omega) (by omega) (by omega)
    rw [ht] at n1
    simp only [spec_l14Counts.l0]
    rw [if_pos (by omega), if_pos (by omega), if_pos (by omega), rd_at R i hlt, wrap_in (x := (i : Int) + 1) (by omega) (by omega), hc]
    by_cases h0 : 0 ≤ R[i]
    · rw [if_pos (show R[i] ≥ 0 from h0), if_pos h0, if_pos (by rw [G.countsB_length]; exact hx), counts_put n _ _ (by rw [List.length_take]; omega) hx h0, n1]
    · rw [if_neg (show ¬ R[i] ≥ 0 from h0)]
      rw [G.countsB_neg n _ _ (by omega)] at n1
      exact n1
theorem counts_swap (n : Nat) (a b : List Int) : G.countsB n (a ++ b) = G.countsB n (b ++ a) := by
  unfold G.countsB
  apply List.map_congr_left
  intro k _
  rw [List.countP_append, List.countP_append, Nat.add_comm]
theorem spec_counts_eq (F : List (List Int)) (L : List Bool) (R : List Int) (hg : G.goodHeapB F L R 12 = true) (k : Nat) (hk : 200 < k) : spec_l14Counts.f k F L R = some (G.countsB F.length (F.flatten ++ R)) := by
  obtain ⟨q1, q2, q3, q4, q5⟩ := good_parts hg
  have ok := good_ok hg
  unfold spec_l14Counts.f
  have := counts_l0 F.length F L R R q1 ok.rows q3 ok.fr R.length 0 k (by omega) (by omega) (by omega)
  rw [List.take_zero, G.countsB_nil] at this
  rw [if_pos (by omega), if_pos (by simp; omega), Int.toNat_natCast, show (0 : Int) = ((0 : Nat) : Int) from rfl]
  rw [show ((0 : Nat) : Int) = 0 from rfl] at this ⊢
  rw [this, counts_swap]
theorem impl_counts_eq (F : List (List Int)) (L : List Bool) (R : List Int) (hg : G.goodHeapB F L R 12 = true) : impl_Heap_counts.f F L R = some (G.countsB F.length (F.flatten ++ R)) := by
  obtain ⟨q1, q2, q3, q4, q5⟩ := good_parts hg
  unfold impl_Heap_counts.f
  rw [if_pos ⟨good_okFrom hg, q2, q1, q3⟩]
/-- One name less. -/
def decB (h : Bool) (c : List Int) (x : Int) : List Int := if 0 ≤ x ∧ h = true then c.set x.toNat (wrap64 (rd c x - 1)) else c
theorem decB_len (h : Bool) (c : List Int) (x : Int) : (decB h c x).length = c.length := by unfold decB; split <;> simp
theorem dec_fold_len (h : Bool) (row : List Int) : ∀ c : List Int, (row.foldl (decB h) c).length = c.length := by
  induction row with
  | nil => intro c; rfl
  | cons x row ih => intro c; rw [List.foldl_cons, ih, decB_len]
def decAll (H : List Bool) : List (List Int) → Nat → List Int → List Int
  | [], _, c => c
  | f :: fs, k, c => decAll H fs (k + 1) (f.foldl (decB (H.getD k false)) c)
theorem decAll_len (H : List Bool) : ∀ (F : List (List Int)) (k : Nat) (c : List Int), (decAll H F k c).length = c.length := by
  intro F
  induction F with
  | nil => intro k c; rfl
  | cons f F ih => intro k c; simp only [decAll]; rw [ih, dec_fold_len]
def zeroAll (H : List Bool) : Nat → Nat → List Int → List Int
  | 0, _, c => c
  | d + 1, k, c => zeroAll H d (k + 1) (if H.getD k false = true then c else c.set k 0)
theorem zeroAll_len (H : List Bool) : ∀ (d k : Nat) (c : List Int), (zeroAll H d k c).length = c.length := by
  intro d
  induction d with
  | zero => intro k c; rfl
  | succ d ih => intro k c; simp only [zeroAll]; rw [ih]; split <;> simp
theorem spec_l14Outer_l2 (H : List Bool) (d : Nat) : ∀ (i k : Nat) (c : List Int), H.length = c.length → c.length ≤ 12 → i ≤ c.length → c.length - i = d → d < k →
    spec_l14Outer.l2 k H c c.length i = some (zeroAll H d i c) := by
  induction d with
  | zero =>
    intro i k c hH hc hi hd hk
    obtain ⟨k, rfl⟩ : ∃ m, k = m + 1 := ⟨k - 1, by omega⟩
    obtain rfl : i = c.length := by omega
    simp only [spec_l14Outer.l2]
    rw [if_neg (by omega)]; rfl
  | succ d ih =>
    intro i k c hH hc hi hd hk
    obtain ⟨k, rfl⟩ : ∃ m, k = m + 1 := ⟨k - 1, by omega⟩
    have hlt : i < c.length := by omega
    have e : ((i : Int) + 1) = ((i + 1 : Nat) : Int) := by omega
    simp only [spec_l14Outer.l2, zeroAll]
    rw [if_pos (by omega), if_pos (by omega), if_pos (by omega), rdOf_nat, wrap_in (by omega) (by omega), e]
    cases H.getD i false with
    | true => rw [if_pos rfl, if_pos rfl]; exact ih (i + 1) k c hH hc (by omega) (by omega) (by omega)
    | false =>
      rw [if_neg (show ¬ (false = true) by simp), if_neg (show ¬ (false = true) by simp), if_pos (by omega), Int.toNat_natCast]
      have := ih (i + 1) k (c.set i 0) (by rw [List.length_set]; exact hH) (by rw [List.length_set]; exact hc) (by rw [List.length_set]; omega) (by rw [List.length_set]; omega) (by omega)
      rw [List.length_set] at this
      exact this
theorem spec_l14Outer_l1 (F : List (List Int)) (H : List Bool) (kk : Nat) (row : List Int) (d : Nat) : ∀ (i k m : Nat) (c : List Int), H.length = c.length → kk < H.length → (∀ x ∈ row, x < (c.length : Int)) → row.length ≤ 3 → i ≤ row.length → row.length - i = d → d + 1 + m ≤ k →
    ∃ k', m ≤ k' ∧ spec_l14Outer.l1 k H c kk F F.length kk row row.length i = spec_l14Outer.l0 k' H ((row.drop i).foldl (decB (H.getD kk false)) c) F F.length (wrap64 ((kk : Int) + 1)) := by
  induction d with
  | zero =>
    intro i k m c hH hkk hrow hr3 hi hd hk
    obtain ⟨k, rfl⟩ : ∃ m, k = m + 1 := ⟨k - 1, by omega⟩
    obtain rfl : i = row.length := by omega
    refine ⟨k, by omega, ?_⟩
    simp only [spec_l14Outer.l1]
    rw [if_neg (by omega), List.drop_length]; rfl
  | succ d ih =>
    intro i k m c hH hkk hrow hr3 hi hd hk
    obtain ⟨k, rfl⟩ : ∃ m, k = m + 1 := ⟨k - 1, by omega⟩
    have hlt : i < row.length := by omega
    have e : ((i : Int) + 1) = ((i + 1 : Nat) : Int) := by omega
    have hx := hrow row[i] (List.getElem_mem hlt)
    obtain ⟨k', hk', e1⟩ := ih (i + 1) k m (decB (H.getD kk false) c row[i]) (by rw [decB_len]; exact hH) hkk (by rw [decB_len]; exact hrow) hr3 (by omega) (by omega) (by omega)
    refine ⟨k', hk', ?_⟩
    rw [List.drop_eq_getElem_cons hlt, List.foldl_cons, ← e1]
    have hkk0 : (0 : Int) ≤ (kk : Int) := by omega
    have hkk1 : (kk : Int) < (H.length : Int) := by omega
    simp only [spec_l14Outer.l1]
    rw [if_pos (by omega), if_pos (by omega), if_pos (by omega), rd_at row i hlt, rdOf_nat, wrap_in (x := (i : Int) + 1) (by omega) (by omega), e]
    unfold decB
    by_cases h0 : 0 ≤ row[i]
    · cases H.getD kk false with
      | true => simp only [ge_iff_le, h0, hkk0, hkk1, hx, if_true, and_self]
      | false => simp only [ge_iff_le, h0, hkk0, hkk1, if_true, Bool.false_eq_true, and_false, if_false]
    · cases H.getD kk false with
      | true => simp only [ge_iff_le, h0, hkk0, hkk1, if_true, false_and, if_false]
      | false => simp only [ge_iff_le, h0, hkk0, hkk1, if_true, Bool.false_eq_true, and_false, if_false]
theorem spec_l14Outer_l0 (F : List (List Int)) (H : List Bool) (hHF : H.length = F.length) (hF : F.length ≤ 12) (hrows : ∀ f ∈ F, f.length ≤ 3 ∧ ∀ x ∈ f, x < (F.length : Int)) (d : Nat) : ∀ (j k : Nat) (c : List Int), c.length = F.length → j ≤ F.length → F.length - j = d → d * 6 + 20 < k →
    spec_l14Outer.l0 k H c F F.length j = some (zeroAll H F.length 0 (decAll H (F.drop j) j c)) := by
  induction d with
  | zero =>
    intro j k c hc hj hd hk
    obtain ⟨k, rfl⟩ : ∃ m, k = m + 1 := ⟨k - 1, by omega⟩
    obtain rfl : j = F.length := by omega
    simp only [spec_l14Outer.l0]
    rw [if_neg (by omega), List.drop_length]
    have := spec_l14Outer_l2 H c.length 0 k c (by omega) (by omega) (by omega) (by omega) (by omega)
    rw [show (0 : Int) = ((0 : Nat) : Int) from rfl, this, hc]; rfl
  | succ d ih =>
    intro j k c hc hj hd hk
    obtain ⟨k, rfl⟩ : ∃ m, k = m + 1 := ⟨k - 1, by omega⟩
    have hlt : j < F.length := by omega
    have hr := hrows F[j] (List.getElem_mem hlt)
    obtain ⟨k', hk', e⟩ := spec_l14Outer_l1 F H j F[j] F[j].length 0 k (d * 6 + 21) c (by omega) (by omega) (by rw [hc]; exact hr.2) hr.1 (by omega) (by omega) (by omega)
    have hcc : ((j : Int) + 1) = ((j + 1 : Nat) : Int) := by omega
    rw [List.drop_zero, wrap_in (by omega) (by omega), hcc] at e
    have n1 := ih (j + 1) k' (F[j].foldl (decB (H.getD j false)) c) (by rw [dec_fold_len]; exact hc) (by omega) (by omega) (by omega)
    simp only [spec_l14Outer.l0]
    rw [if_pos (by omega), if_pos (by omega), if_pos (by omega), rdL2_at F j hlt, show (0 : Int) = ((0 : Nat) : Int) from rfl, e, n1, List.drop_eq_getElem_cons hlt]
    rfl
theorem impl_Heap_outer_l2 (H : List Bool) (d : Nat) : ∀ (i k : Nat) (c : List Int), H.length = c.length → c.length ≤ 12 → i ≤ c.length → c.length - i = d → d < k →
    impl_Heap_outer.l2 k H c c.length i = some (zeroAll H d i c) := by
  induction d with
  | zero =>
    intro i k c hH hc hi hd hk
    obtain ⟨k, rfl⟩ : ∃ m, k = m + 1 := ⟨k - 1, by omega⟩
    obtain rfl : i = c.length := by omega
    simp only [impl_Heap_outer.l2]
    rw [if_neg (by omega)]; rfl
  | succ d ih =>
    intro i k c hH hc hi hd hk
    obtain ⟨k, rfl⟩ : ∃ m, k = m + 1 := ⟨k - 1, by omega⟩
    have hlt : i < c.length := by omega
    have e : ((i : Int) + 1) = ((i + 1 : Nat) : Int) := by omega
    simp only [impl_Heap_outer.l2, zeroAll]
    rw [if_pos (by omega), if_pos (by omega), if_pos (by omega), rdOf_nat, wrap_in (by omega) (by omega), e]
    cases H.getD i false with
    | true => rw [if_pos rfl, if_pos rfl]; exact ih (i + 1) k c hH hc (by omega) (by omega) (by omega)
    | false =>
      rw [if_neg (show ¬ (false = true) by simp), if_neg (show ¬ (false = true) by simp), if_pos (by omega), Int.toNat_natCast]
      have := ih (i + 1) k (c.set i 0) (by rw [List.length_set]; exact hH) (by rw [List.length_set]; exact hc) (by rw [List.length_set]; omega) (by rw [List.length_set]; omega) (by omega)
      rw [List.length_set] at this
      exact this
theorem impl_Heap_outer_l1 (F : List (List Int)) (H : List Bool) (kk : Nat) (row : List Int) (d : Nat) : ∀ (i k m : Nat) (c : List Int), H.length = c.length → kk < H.length → (∀ x ∈ row, x < (c.length : Int)) → row.length ≤ 3 → i ≤ row.length → row.length - i = d → d + 1 + m ≤ k →
    ∃ k', m ≤ k' ∧ impl_Heap_outer.l1 k H c kk F F.length kk row row.length i = impl_Heap_outer.l0 k' H ((row.drop i).foldl (decB (H.getD kk false)) c) F F.length (wrap64 ((kk : Int) + 1)) := by
  induction d with
  | zero =>
    intro i k m c hH hkk hrow hr3 hi hd hk
    obtain ⟨k, rfl⟩ : ∃ m, k = m + 1 := ⟨k - 1, by omega⟩
    obtain rfl : i = row.length := by omega
    refine ⟨k, by omega, ?_⟩
    simp only [impl_Heap_outer.l1]
    rw [if_neg (by omega), List.drop_length]; rfl
  | succ d ih =>
    intro i k m c hH hkk hrow hr3 hi hd hk
    obtain ⟨k, rfl⟩ : ∃ m, k = m + 1 := ⟨k - 1, by omega⟩
    have hlt : i < row.length := by omega
    have e : ((i : Int) + 1) = ((i + 1 : Nat) : Int) := by omega
    have hx := hrow row[i] (List.getElem_mem hlt)
    obtain ⟨k', hk', e1⟩ := ih (i + 1) k m (decB (H.getD kk false) c row[i]) (by rw [decB_len]; exact hH) hkk (by rw [decB_len]; exact hrow) hr3 (by omega) (by omega) (by omega)
    refine ⟨k', hk', ?_⟩
    rw [List.drop_eq_getElem_cons hlt, List.foldl_cons, ← e1]
    have hkk0 : (0 : Int) ≤ (kk : Int) := by omega
    have hkk1 : (kk : Int) < (H.length : Int) := by omega
    simp only [impl_Heap_outer.l1]
    rw [if_pos (by omega), if_pos (by omega), if_pos (by omega), rd_at row i hlt, rdOf_nat, wrap_in (x := (i : Int) + 1) (by omega) (by omega), e]
    unfold decB
    by_cases h0 : 0 ≤ row[i]
    · cases H.getD kk false with
      | true => simp only [ge_iff_le, h0, hkk0, hkk1, hx, if_true, and_self]
      | false => simp only [ge_iff_le, h0, hkk0, hkk1, if_true, Bool.false_eq_true, and_false, if_false]
    · cases H.getD kk false with
      | true => simp only [ge_iff_le, h0, hkk0, hkk1, if_true, false_and, if_false]
      | false => simp only [ge_iff_le, h0, hkk0, hkk1, if_true, Bool.false_eq_true, and_false, if_false]
theorem impl_Heap_outer_l0 (F : List (List Int)) (H : List Bool) (hHF : H.length = F.length) (hF : F.length ≤ 12) (hrows : ∀ f ∈ F, f.length ≤ 3 ∧ ∀ x ∈ f, x < (F.length : Int)) (d : Nat) : ∀ (j k : Nat) (c : List Int), c.length = F.length → j ≤ F.length → F.length - j = d → d * 6 + 20 < k →
    impl_Heap_outer.l0 k H c F F.length j = some (zeroAll H F.length 0 (decAll H (F.drop j) j c)) := by
  induction d with
  | zero =>
    intro j k c hc hj hd hk
    obtain ⟨k, rfl⟩ : ∃ m, k = m + 1 := ⟨k - 1, by omega⟩
    obtain rfl : j = F.length := by omega
    simp only [impl_Heap_outer.l0]
    rw [if_neg (by omega), List.drop_length]
    have := impl_Heap_outer_l2 H c.length 0 k c (by omega) (by omega) (by omega) (by omega) (by omega)
    rw [show (0 : Int) = ((0 : Nat) : Int) from rfl, this, hc]; rfl
  | succ d ih =>
    intro j k c hc hj hd hk
    obtain ⟨k, rfl⟩ : ∃ m, k = m + 1 := ⟨k - 1, by omega⟩
    have hlt : j < F.length := by omega
    have hr := hrows F[j] (List.getElem_mem hlt)
    obtain ⟨k', hk', e⟩ := impl_Heap_outer_l1 F H j F[j] F[j].length 0 k (d * 6 + 21) c (by omega) (by omega) (by rw [hc]; exact hr.2) hr.1 (by omega) (by omega) (by omega)
    have hcc : ((j : Int) + 1) = ((j + 1 : Nat) : Int) := by omega
    rw [List.drop_zero, wrap_in (by omega) (by omega), hcc] at e
    have n1 := ih (j + 1) k' (F[j].foldl (decB (H.getD j false)) c) (by rw [dec_fold_len]; exact hc) (by omega) (by omega) (by omega)
    simp only [impl_Heap_outer.l0]
    rw [if_pos (by omega), if_pos (by omega), if_pos (by omega), rdL2_at F j hlt, show (0 : Int) = ((0 : Nat) : Int) from rfl, e, n1, List.drop_eq_getElem_cons hlt]
    rfl
def outerB (F : List (List Int)) (R : List Int) (H : List Bool) : List Int := zeroAll H F.length 0 (decAll H F 0 (G.countsB F.length (F.flatten ++ R)))
theorem outerB_len (F : List (List Int)) (R : List Int) (H : List Bool) : (outerB F R H).length = F.length := by unfold outerB; rw [zeroAll_len, decAll_len, G.countsB_length]
theorem spec_outer_eq (F : List (List Int)) (L : List Bool) (R : List Int) (H : List Bool) (hg : G.goodHeapB F L R 12 = true) (hH : H.length = F.length) (k : Nat) (hk : 300 < k) : spec_l14Outer.f k F L R H = some (outerB F R H) := by
  obtain ⟨q1, q2, q3, q4, q5⟩ := good_parts hg
  unfold spec_l14Outer.f outerB
  rw [spec_counts_eq F L R hg k (by omega)]
  simp only [Option.bind_some]
  have := spec_l14Outer_l0 F H hH q1 (good_ok hg).rows F.length 0 k (G.countsB F.length (F.flatten ++ R)) (G.countsB_length _ _) (by omega) (by omega) (by omega)
  rw [show (0 : Int) = ((0 : Nat) : Int) from rfl, this, List.drop_zero]
theorem impl_outer_eq (F : List (List Int)) (L : List Bool) (R : List Int) (H : List Bool) (hg : G.goodHeapB F L R 12 = true) (hH : H.length = F.length) (k : Nat) (hk : 300 < k) : impl_Heap_outer.f k F L R H = some (outerB F R H) := by
  obtain ⟨q1, q2, q3, q4, q5⟩ := good_parts hg
  unfold impl_Heap_outer.f outerB
  rw [impl_counts_eq F L R hg]
  simp only [Option.bind_some]
  have := impl_Heap_outer_l0 F H hH q1 (good_ok hg).rows F.length 0 k (G.countsB F.length (F.flatten ++ R)) (G.countsB_length _ _) (by omega) (by omega) (by omega)
  rw [show (0 : Int) = ((0 : Nat) : Int) from rfl, this, List.drop_zero]
/-- The places of what is true. -/
def lisB : List Bool → Nat → List Int
  | [], _ => []
  | b :: bs, i => (if b = true then [(i : Int)] else []) ++ lisB bs (i + 1)
theorem lisB_len : ∀ (l : List Bool) (i : Nat), (lisB l i).length ≤ l.length := by
  intro l
  induction l with
  | nil => intro i; simp [lisB]
  | cons b bs ih =>
    intro i
    simp only [lisB, List.length_append, List.length_cons]
    have := ih (i + 1)
    split <;> simp <;> omega
theorem spec_l8List_go (l : List Bool) (hl : l.length ≤ 1000) (d : Nat) : ∀ (i k : Nat) (acc : List Int), i ≤ l.length → l.length - i = d → acc.length ≤ i → d < k →
    spec_l8List.l0 k acc l l.length i = some (acc ++ lisB (l.drop i) i) := by
  induction d with
  | zero =>
    intro i k acc hi hd ha hk
    obtain ⟨k, rfl⟩ : ∃ m, k = m + 1 := ⟨k - 1, by omega⟩
    obtain rfl : i = l.length := by omega
    simp only [spec_l8List.l0]
    rw [if_neg (by omega), List.drop_length]; simp [lisB]
  | succ d ih =>
    intro i k acc hi hd ha hk
    obtain ⟨k, rfl⟩ : ∃ m, k = m + 1 := ⟨k - 1, by omega⟩
    have hlt : i < l.length := by omega
    have hc : ((i : Int) + 1) = ((i + 1 : Nat) : Int) := by omega
    have ha2 : acc.length < 17592186044416 := by omega
    have n1 := ih (i + 1) k acc (by omega) (by omega) (by omega) (by omega)
    have n2 := ih (i + 1) k (acc ++ [(i : Int)]) (by omega) (by omega) (by simp; omega) (by omega)
    simp only [spec_l8List.l0]
    rw [if_pos (by omega), if_pos (by omega), if_pos (by omega), rdOf_at l i hlt, wrap_in (by omega) (by omega), hc, List.drop_eq_getElem_cons hlt]
    simp only [lisB]
    cases hb : l[i] with
    | true => rw [if_pos rfl, if_pos ha2, if_pos rfl, n2, List.append_assoc]
    | false => rw [if_neg (show ¬ (false = true) by simp), if_neg (show ¬ (false = true) by simp), n1]; rfl
theorem spec_l8List_eq (l : List Bool) (hl : l.length ≤ 1000) (k : Nat) (hk : l.length < k) : spec_l8List.f k l = some (lisB l 0) := by
  unfold spec_l8List.f
  have := spec_l8List_go l hl l.length 0 k [] (by omega) (by omega) (by simp) (by omega)
  simpa using this
theorem impl_listed_go (l : List Bool) (hl : l.length ≤ 1000) (d : Nat) : ∀ (i k : Nat) (acc : List Int), i ≤ l.length → l.length - i = d → acc.length ≤ i → d < k →
    impl_listed.l0 k acc l l.length i = some (acc ++ lisB (l.drop i) i) := by
  induction d with
  | zero =>
    intro i k acc hi hd ha hk
    obtain ⟨k, rfl⟩ : ∃ m, k = m + 1 := ⟨k - 1, by omega⟩
    obtain rfl : i = l.length := by omega
    simp only [impl_listed.l0]
    rw [if_neg (by omega), List.drop_length]; simp [lisB]
  | succ d ih =>
    intro i k acc hi hd ha hk
    obtain ⟨k, rfl⟩ : ∃ m, k = m + 1 := ⟨k - 1, by omega⟩
    have hlt : i < l.length := by omega
    have hc : ((i : Int) + 1) = ((i + 1 : Nat) : Int) := by omega
    have ha2 : acc.length < 17592186044416 := by omega
    have n1 := ih (i + 1) k acc (by omega) (by omega) (by omega) (by omega)
    have n2 := ih (i + 1) k (acc ++ [(i : Int)]) (by omega) (by omega) (by simp; omega) (by omega)
    simp only [impl_listed.l0]
    rw [if_pos (by omega), if_pos (by omega), if_pos (by omega), rdOf_at l i hlt, wrap_in (by omega) (by omega), hc, List.drop_eq_getElem_cons hlt]
    simp only [lisB]
    cases hb : l[i] with
    | true => rw [if_pos rfl, if_pos ha2, if_pos rfl, n2, List.append_assoc]
    | false => rw [if_neg (show ¬ (false = true) by simp), if_neg (show ¬ (false = true) by simp), n1]; rfl
theorem impl_listed_eq (l : List Bool) (hl : l.length ≤ 1000) (k : Nat) (hk : l.length < k) : impl_listed.f k l = some (lisB l 0) := by
  unfold impl_listed.f
  have := impl_listed_go l hl l.length 0 k [] (by omega) (by omega) (by simp) (by omega)
  simpa using this
/-- The same as a whole: what the program's trial gives. -/
def impl_TrialOf.f (F : List (List Int)) (L : List Bool) (R : List Int) (a : Int) : Option (List Int × Bool) := some ((G.trialB (outerB F R) (fun H => lisB H 0) F L R a).1, (G.trialB (outerB F R) (fun H => lisB H 0) F L R a).2)
theorem impl_TrialOf.calls (A0_0 : Option Addr) (c0_0 : Nat) (l0_0 : List (List Int)) (A0_1 : Option Addr) (c0_1 : Nat) (l0_1 : List Bool) (A0_2 : Option Addr) (c0_2 : Nat) (l0_2 : List Int) (a1 : Int) (r1 : List Int) (r2 : Bool) (w : World) (hr0_0 : Kd.C (Kd.slice 3 (Kd.int .i64)) w A0_0 l0_0.length l0_0) (hc0_0 : l0_0.length ≤ c0_0) (hr0_1 : Kd.C Kd.bool w A0_1 l0_1.length l0_1) (hc0_1 : l0_1.length ≤ c0_1) (hr0_2 : Kd.C (Kd.int .i64) w A0_2 l0_2.length l0_2) (hc0_2 : l0_2.length ≤ c0_2) (h : impl_TrialOf.f l0_0 l0_1 l0_2 a1 = some (r1, r2)) :
    Calls Try.prog 34 #[.agg #[.slice A0_0 l0_0.length c0_0, .slice A0_1 l0_1.length c0_1, .slice A0_2 l0_2.length c0_2], .int .i64 a1] w fun e w' => ∃ v0_ : Value, e = .returned (.tuple #[v0_, .bool r2]) ∧ Kd.R (Kd.int .i64) 3 w' w.heap.size (fun _ => True) v0_ r1 ∧ Below w.heap.size w w' := by
  have h := Option.some.inj h
  rw [Prod.mk.injEq] at h
  obtain ⟨rfl, rfl⟩ := h
  exact G.TrialOf_calls (outerB l0_0 l0_2) (fun H => lisB H 0) A0_0 A0_1 A0_2 c0_0 c0_1 c0_2 l0_0 l0_1 l0_2 a1 w ⟨hr0_0, hc0_0, hr0_1, hc0_1, hr0_2, hc0_2⟩
    (fun hg A c H W hh hC hle hHl => impl_Heap_outer.calls 400 A0_0 c0_0 l0_0 A0_1 c0_1 l0_1 A0_2 c0_2 l0_2 A c H _ W hh.rF hh.cF hh.rL hh.cL hh.rR hh.cR hC hle (impl_outer_eq l0_0 l0_1 l0_2 H hg hHl 400 (by omega)))
    (fun A c H W hC hle h12 => impl_listed.calls 400 A c H _ W hC hle (impl_listed_eq H (by omega) 400 (by omega)))
def cntB (xs : List Int) (x : Nat) : Int := ((xs.countP (fun y => y == (x : Int)) : Nat) : Int)
theorem cntB_nn (xs : List Int) (x : Nat) : 0 ≤ cntB xs x := by unfold cntB; omega
theorem cntB_le (xs : List Int) (x : Nat) : cntB xs x ≤ xs.length := by unfold cntB; have := List.countP_le_length (p := fun y => y == (x : Int)) (l := xs); omega
theorem cntB_cons (y : Int) (xs : List Int) (x : Nat) : cntB (y :: xs) x = cntB xs x + if y = (x : Int) then 1 else 0 := by
  unfold cntB
  rw [List.countP_cons]
  by_cases h : y = (x : Int)
  · simp [h]
  · simp [h]
theorem cntB_append (a b : List Int) (x : Nat) : cntB (a ++ b) x = cntB a x + cntB b x := by unfold cntB; rw [List.countP_append]; omega
theorem dec_get (row : List Int) : ∀ (c : List Int) (B : Int), (∀ x ∈ row, x < (c.length : Int)) → 0 ≤ B → B + row.length ≤ 1000000 → (∀ x : Nat, -B ≤ c.getD x 0 ∧ c.getD x 0 ≤ 1000000) →
    ∀ x : Nat, x < c.length → (row.foldl (decB true) c).getD x 0 = c.getD x 0 - cntB row x := by
  induction row with
  | nil => intro c B _ _ _ _ x _; simp [cntB]
  | cons y row ih =>
    intro c B hrow hB hB2 hc x hx
    rw [List.foldl_cons, cntB_cons]
    have hy := hrow y (by simp)
    have hl : (decB true c y).length = c.length := decB_len _ _ _
    simp only [List.length_cons] at hB2
    have key : ∀ z : Nat, z < c.length → (decB true c y).getD z 0 = c.getD z 0 - if y = (z : Int) then 1 else 0 := by
      intro z hz
      unfold decB
      by_cases h0 : 0 ≤ y
      · obtain ⟨k, rfl⟩ := Int.eq_ofNat_of_zero_le h0
        have hk := hc k
        have e : rd c (k : Int) = c.getD k 0 := by unfold rd; simp
        rw [if_pos ⟨h0, rfl⟩, Int.toNat_natCast, e, wrap_in (by omega) (by omega), G.getD_setI (by omega)]
        by_cases hzk : z = k
        · subst hzk; simp
        · rw [if_neg hzk, if_neg (by omega)]; omega
      · rw [if_neg (fun h => h0 h.1), if_neg (by omega)]; omega
    have out : ∀ z : Nat, ¬ z < c.length → (decB true c y).getD z 0 = 0 := fun z hz => getD_neg (by rw [hl]; omega)
    rw [ih (decB true c y) (B + 1) (by rw [hl]; exact fun z hz => hrow z (List.mem_cons_of_mem _ hz)) (by omega) (by omega) (fun z => by
      by_cases hz : z < c.length
      · rw [key z hz]; have := hc z; split <;> omega
      · rw [out z hz]; omega) x (by rw [hl]; exact hx), key x hx]
    omega
theorem dec_fold_false (row : List Int) : ∀ c : List Int, row.foldl (decB false) c = c := by
  induction row with
  | nil => intro c; rfl
  | cons y row ih => intro c; rw [List.foldl_cons, show decB false c y = c from by unfold decB; rw [if_neg (fun h => absurd h.2 (by simp))], ih]
theorem decAll_get (H : List Bool) : ∀ (F : List (List Int)) (k : Nat) (c : List Int) (B : Int), (∀ f ∈ F, ∀ x ∈ f, x < (c.length : Int)) → 0 ≤ B → B + F.flatten.length ≤ 1000000 → (∀ x : Nat, -B ≤ c.getD x 0 ∧ c.getD x 0 ≤ 1000000) →
    ∀ x : Nat, x < c.length → c.getD x 0 - cntB F.flatten x ≤ (decAll H F k c).getD x 0 := by
  intro F
  induction F with
  | nil => intro k c B _ _ _ _ x _; simp [decAll, cntB]
  | cons f F ih =>
    intro k c B hrows hB hB2 hc x hx
    simp only [decAll, List.flatten_cons] at *
    rw [List.length_append] at hB2
    rw [cntB_append]
    have hf := hrows f (by simp)
    cases H.getD k false with
    | false =>
      rw [dec_fold_false]
      have := ih (k + 1) c B (fun g hg => hrows g (List.mem_cons_of_mem _ hg)) hB (by omega) hc x hx
      have := cntB_nn f x
      omega
    | true =>
      have hl := dec_fold_len true f c
      have hg := dec_get f c B hf hB (by omega) hc
      have := ih (k + 1) (f.foldl (decB true) c) (B + f.length) (by rw [hl]; exact fun g hg => hrows g (List.mem_cons_of_mem _ hg)) (by omega) (by omega) (fun z => by
        by_cases hz : z < c.length
        · rw [hg z hz]; have h1 := hc z; have h2 := cntB_nn f z; have h3 := cntB_le f z; omega
        · rw [getD_neg (by rw [hl]; omega)]; omega) x (by rw [hl]; exact hx)
      rw [hg x hx] at this
      omega
theorem zeroAll_nn (H : List Bool) : ∀ (d k : Nat) (c : List Int), (∀ x : Nat, 0 ≤ c.getD x 0) → ∀ x : Nat, 0 ≤ (zeroAll H d k c).getD x 0 := by
  intro d
  induction d with
  | zero => intro k c hc x; exact hc x
  | succ d ih =>
    intro k c hc x
    simp only [zeroAll]
    refine ih _ _ (fun z => ?_) x
    split
    · exact hc z
    · by_cases hk : k < c.length
      · rw [G.getD_setI hk]
        split
        · omega
        · exact hc z
      · rw [List.set_eq_of_length_le (by omega)]; exact hc z
theorem outerB_nn (F : List (List Int)) (L : List Bool) (R : List Int) (H : List Bool) (hg : G.goodHeapB F L R 12 = true) (x : Nat) : 0 ≤ (outerB F R H).getD x 0 := by
  obtain ⟨q1, q2, q3, q4, q5⟩ := good_parts hg
  have ok := good_ok hg
  have hfl := G.flatten_len F (fun f hf => (ok.rows f hf).1)
  unfold outerB
  refine zeroAll_nn H _ _ _ (fun z => ?_) x
  by_cases hz : z < F.length
  · have hc : ∀ y : Nat, -(0 : Int) ≤ (G.countsB F.length (F.flatten ++ R)).getD y 0 ∧ (G.countsB F.length (F.flatten ++ R)).getD y 0 ≤ 1000000 := fun y => by
      have h := G.countsB_le F.length (F.flatten ++ R) y
      rw [List.length_append] at h
      omega
    have := decAll_get H F 0 (G.countsB F.length (F.flatten ++ R)) 0 (by rw [G.countsB_length]; exact fun f hf => (ok.rows f hf).2) (by omega) (by omega) hc z (by rw [G.countsB_length]; exact hz)
    have e : (G.countsB F.length (F.flatten ++ R)).getD z 0 = cntB (F.flatten ++ R) z := G.countsB_get _ _ _ hz
    rw [e, cntB_append] at this
    have := cntB_nn R z
    omega
  · rw [getD_neg (by rw [decAll_len, G.countsB_length]; omega)]; omega
theorem any_pos (l : List Int) (h : ∀ x : Nat, 0 ≤ l.getD x 0) : (l.any fun n => decide (n > 0)) = l.any fun n => n != 0 := by
  rw [Bool.eq_iff_iff, List.any_eq_true, List.any_eq_true]
  constructor
  · rintro ⟨x, hx, h1⟩
    exact ⟨x, hx, by simp at h1 ⊢; omega⟩
  · rintro ⟨x, hx, h1⟩
    obtain ⟨j, hj, rfl⟩ := List.getElem_of_mem hx
    have h2 := h j
    simp only [List.getD_eq_getElem?_getD, List.getElem?_eq_getElem hj, Option.getD_some] at h2
    exact ⟨l[j], hx, by simp at h1 ⊢; omega⟩
theorem trial_loop (S : List Bool) (hS : S.length ≤ 12) (out : List Int) (ho : out.length ≤ 12) (d : Nat) : ∀ (i k : Nat), i ≤ out.length → out.length - i = d → d + 50 < k →
    spec_TrialOf.l0 k S out out.length i = some (if ((out.drop i).any fun n => decide (n > 0)) = true then [] else lisB S 0, true) := by
  induction d with
  | zero =>
    intro i k hi hd hk
    obtain ⟨k, rfl⟩ : ∃ m, k = m + 1 := ⟨k - 1, by omega⟩
    obtain rfl : i = out.length := by omega
    simp only [spec_TrialOf.l0]
    rw [if_neg (by omega), List.drop_length, spec_l8List_eq S (by omega) k (by omega)]; rfl
  | succ d ih =>
    intro i k hi hd hk
    obtain ⟨k, rfl⟩ : ∃ m, k = m + 1 := ⟨k - 1, by omega⟩
    have hlt : i < out.length := by omega
    have hc : ((i : Int) + 1) = ((i + 1 : Nat) : Int) := by omega
    simp only [spec_TrialOf.l0]
    rw [if_pos (by omega), if_pos (by omega), if_pos (by omega), rd_at out i hlt, wrap_in (by omega) (by omega), hc, List.drop_eq_getElem_cons hlt, List.any_cons, ih (i + 1) k (by omega) (by omega) (by omega)]
    by_cases h : out[i] > 0
    · rw [if_pos h, decide_eq_true h]; rfl
    · rw [if_neg h, decide_eq_false h]; rfl
theorem spec_TrialOf_eq (F : List (List Int)) (L : List Bool) (R : List Int) (a : Int) (hb : BigH F L R) (k : Nat) (hk : 2097170 < k) :
    spec_TrialOf.f k F L R a = some ((G.trialB (outerB F R) (fun H => lisB H 0) F L R a).1, (G.trialB (outerB F R) (fun H => lisB H 0) F L R a).2) := by
  unfold spec_TrialOf.f G.trialB
  rw [GoodHeap_eq F L R hb k (by omega)]; simp only [Option.bind_some]
  obtain ⟨k, rfl⟩ : ∃ m, k = m + 1 := ⟨k - 1, by omega⟩
  cases hg : G.goodHeapB F L R 12 with
  | false => simp [spec_TrialOf.j0]
  | true =>
    obtain ⟨q1, q2, q3, q4, q5⟩ := good_parts hg
    have ok := good_ok hg
    rw [if_pos rfl, Thing_eq F L R a q2 (by omega)]
    simp only [Option.bind_some, spec_TrialOf.j0]
    have hlv : G.liveB L a = (decide (0 ≤ a) && L.getD a.toNat false) := rfl
    rw [hlv]
    cases hv : (decide (0 ≤ a) && L.getD a.toNat false) with
    | false => simp
    | true =>
      have ha : a < (F.length : Int) := by
        simp only [Bool.and_eq_true, decide_eq_true_eq] at hv
        by_cases hk : a.toNat < L.length
        · omega
        · have h2 := hv.2
          rw [getD_neg (by omega)] at h2; cases h2
      have ok1 : G.ReachOk F [a] := ⟨ok.n, fun y hy => by simp at hy; omega, ok.rows⟩
      have hS := G.seenB_length ok1
      rw [if_neg (by simp), if_pos ⟨trivial, rfl⟩]
      unfold spec_l5From.f
      rw [if_pos (G.okFrom_iff.2 ⟨ok1, by simp⟩)]
      simp only [Option.bind_some]
      rw [spec_outer_eq F L R _ hg hS k (by omega)]
      simp only [Option.bind_some]
      have hol := outerB_len F R (G.seenB F [a])
      have := trial_loop (G.seenB F [a]) (by omega) (outerB F R (G.seenB F [a])) (by omega) (outerB F R (G.seenB F [a])).length 0 k (by omega) (by omega) (by omega)
      rw [show (0 : Int) = ((0 : Nat) : Int) from rfl, this, List.drop_zero, any_pos _ (outerB_nn F L R _ hg)]
      rfl

end Go.Proofs.Ytemgbakjlbdibaa.QB
