import Derived.Test.YtemgbakjlbdibaaPH
import Derived.Test.YtemgbakjlbdibaaLawW
namespace Go.Proofs.Ytemgbakjlbdibaa.QB
open Go.RowKit Go.Joins Go.ChangeShapes Go.WideShapes Go.Proofs.YtemgbakjlbdibaaW.PrintWords
set_option linter.unusedVariables false
theorem isRef_lt {L : List Bool} {x : Int} (h : G.isRefB L x = true) : x < (L.length : Int) := by
  unfold G.isRefB at h
  simp only [Bool.or_eq_true, beq_iff_eq, Bool.and_eq_true, decide_eq_true_eq] at h
  rcases h with h | ⟨h0, h1⟩
  · omega
  · by_cases hk : x.toNat < L.length
    · omega
    · rw [getD_neg (by omega)] at h1; cases h1
theorem good_parts {F : List (List Int)} {L : List Bool} {R : List Int} (h : G.goodHeapB F L R 12 = true) :
    F.length ≤ 12 ∧ L.length = F.length ∧ R.length ≤ 4 ∧ (∀ f ∈ F, f.length ≤ 3 ∧ ∀ x ∈ f, G.isRefB L x = true) ∧ ∀ x ∈ R, G.isRefB L x = true := by
  unfold G.goodHeapB at h
  simp only [Bool.and_eq_true, decide_eq_true_eq, List.all_eq_true, List.mem_range] at h
  obtain ⟨⟨⟨⟨h1, h2⟩, h3⟩, h4⟩, h5⟩ := h
  refine ⟨by omega, h2, h3, fun f hf => ?_, h5⟩
  obtain ⟨k, hk, rfl⟩ := List.getElem_of_mem hf
  have := h4 k hk
  simp only [List.getD_eq_getElem?_getD, List.getElem?_eq_getElem hk, Option.getD_some] at this
  exact ⟨this.1.1, this.2⟩
theorem good_ok {F : List (List Int)} {L : List Bool} {R : List Int} (h : G.goodHeapB F L R 12 = true) : G.ReachOk F R := by
  obtain ⟨h1, h2, h3, h4, h5⟩ := good_parts h
  exact ⟨by omega, fun x hx => by rw [← h2]; exact isRef_lt (h5 x hx), fun f hf => ⟨(h4 f hf).1, fun x hx => by rw [← h2]; exact isRef_lt ((h4 f hf).2 x hx)⟩⟩
theorem good_okFrom {F : List (List Int)} {L : List Bool} {R : List Int} (h : G.goodHeapB F L R 12 = true) : G.okFrom F R = true :=
  G.okFrom_iff.2 ⟨good_ok h, by have := (good_parts h).2.2.1; omega⟩
/-- What has been marked stands as marked. -/
theorem heldIntS_eq (n : Nat) (hn : n ≤ 1048576) (k : Nat) (hk : n < k) : laws_heldIntS.f k (G.markI n 1) 1 = some (1 + (n : Int)) := by
  unfold laws_heldIntS.f
  have := loop_val (fun k i => laws_heldIntS.l0 k (G.markI n 1) (1 + (i : Int)) i) n 0 (some (1 + (n : Int))) ?_ ?_ k (by omega)
  · simpa using this
  · intro k i _ h
    simp only [laws_heldIntS.l0]
    have e : rd (G.markI n 1) (i : Int) = 1 + (i : Int) := by
      rw [rd_nat]; simp [G.markI, h]
    rw [if_pos (by rw [G.markI_length]; omega), if_pos (by omega), e, if_pos rfl, wrap_in (by omega) (by omega), wrap_in (by omega) (by omega)]
    rw [show 1 + (i : Int) + 1 = 1 + ((i + 1 : Nat) : Int) by omega, show (i : Int) + 1 = ((i + 1 : Nat) : Int) by omega]
  · intro k _
    simp only [laws_heldIntS.l0]
    rw [if_neg (by rw [G.markI_length]; omega)]
theorem counts_put (n : Nat) (ys : List Int) (x : Int) (hy : ys.length ≤ 1000) (hx : x < (n : Int)) (h0 : 0 ≤ x) :
    (G.countsB n ys).set x.toNat (wrap64 (rd (G.countsB n ys) x + 1)) = G.countsB n (ys ++ [x]) := by
  obtain ⟨k, rfl⟩ := Int.eq_ofNat_of_zero_le h0
  have hb := G.countsB_le n ys k
  have e : rd (G.countsB n ys) (k : Int) = (G.countsB n ys).getD k 0 := by unfold rd; simp
  rw [e, wrap_in (by omega) (by omega), Int.toNat_natCast, G.countsB_snoc n ys k (by omega)]
theorem counts_l2 (n : Nat) (F : List (List Int)) (j : Int) (row : List Int) (hrow : ∀ x ∈ row, x < (n : Int)) (d : Nat) : ∀ (i k m : Nat) (ys : List Int), i ≤ row.length → row.length - i = d → d + 1 + m ≤ k → ys.length + row.length ≤ 1000 →
    ∃ k', m ≤ k' ∧ spec_l14Counts.l2 k (G.countsB n (ys ++ row.take i)) F F.length j row row.length i = spec_l14Counts.l1 k' (G.countsB n (ys ++ row)) F F.length (wrap64 (j + 1)) := by
  induction d with
  | zero =>
    intro i k m ys hi hd hk hy
    obtain ⟨k, rfl⟩ : ∃ m, k = m + 1 := ⟨k - 1, by omega⟩
    obtain rfl : i = row.length := by omega
    refine ⟨k, by omega, ?_⟩
    simp only [spec_l14Counts.l2]
    rw [if_neg (by omega), List.take_length]
  | succ d ih =>
    intro i k m ys hi hd hk hy
    obtain ⟨k, rfl⟩ : ∃ m, k = m + 1 := ⟨k - 1, by omega⟩
    have hlt : i < row.length := by omega
    obtain ⟨k', hk', e⟩ := ih (i + 1) k m ys (by omega) (by omega) (by omega) hy
    refine ⟨k', hk', ?_⟩
    rw [← e]
    have hc : ((i : Int) + 1) = ((i + 1 : Nat) : Int) := by omega
    have ht : ys ++ row.take (i + 1) = (ys ++ row.take i) ++ [row[i]] := by rw [List.take_succ_eq_append_getElem hlt, List.append_assoc]
    have hx := hrow row[i] (List.getElem_mem hlt)
    simp only [spec_l14Counts.l2]
    rw [if_pos (by omega), if_pos (by omega), if_pos (by omega), rd_at row i hlt, wrap_in (x := (i : Int) + 1) (by omega) (by omega), hc, ht]
    by_cases h0 : 0 ≤ row[i]
    · rw [if_pos (show row[i] ≥ 0 from h0), if_pos h0, if_pos (by rw [G.countsB_length]; exact hx), counts_put n _ _ (by rw [List.length_append, List.length_take]; omega) hx h0]
    · rw [if_neg (show ¬ row[i] ≥ 0 from h0), G.countsB_neg n _ _ (by omega)]
theorem counts_l1 (n : Nat) (F : List (List Int)) (hF : F.length ≤ 12) (hrows : ∀ f ∈ F, f.length ≤ 3 ∧ ∀ x ∈ f, x < (n : Int)) (d : Nat) : ∀ (j k : Nat) (ys : List Int), j ≤ F.length → F.length - j = d → d * 6 + 1 < k → ys.length + 4 * d ≤ 900 →
    spec_l14Counts.l1 k (G.countsB n ys) F F.length j = some (G.countsB n (ys ++ (F.drop j).flatten)) := by
  induction d with
  | zero =>
    intro j k ys hj hd hk hy
    obtain ⟨k, rfl⟩ : ∃ m, k = m + 1 := ⟨k - 1, by omega⟩
    obtain rfl : j = F.length := by omega
    simp only [spec_l14Counts.l1]
    rw [if_neg (by omega), List.drop_length]; simp
  | succ d ih =>
    intro j k ys hj hd hk hy
    obtain ⟨k, rfl⟩ : ∃ m, k = m + 1 := ⟨k - 1, by omega⟩
    have hlt : j < F.length := by omega
    have hr := hrows F[j] (List.getElem_mem hlt)
    obtain ⟨k', hk', e⟩ := counts_l2 n F j F[j] hr.2 F[j].length 0 k (d * 6 + 2) ys (by omega) (by omega) (by omega) (by omega)
    have hc : ((j : Int) + 1) = ((j + 1 : Nat) : Int) := by omega
    rw [List.take_zero, List.append_nil, wrap_in (by omega) (by omega), hc] at e
    have n1 := ih (j + 1) k' (ys ++ F[j]) (by omega) (by omega) (by omega) (by rw [List.length_append]; omega)
    simp only [spec_l14Counts.l1]
    rw [if_pos (by omega), if_pos (by omega), if_pos (by omega), rdL2_at F j hlt, show (0 : Int) = ((0 : Nat) : Int) from rfl, e, n1, List.drop_eq_getElem_cons hlt, List.flatten_cons, List.append_assoc]
theorem counts_l0 (n : Nat) (F : List (List Int)) (L : List Bool) (R0 R : List Int) (hF : F.length ≤ 12) (hrows : ∀ f ∈ F, f.length ≤ 3 ∧ ∀ x ∈ f, x < (n : Int)) (hR : R.length ≤ 4) (hroots : ∀ x ∈ R, x < (n : Int)) (d : Nat) : ∀ (i k : Nat), i ≤ R.length → R.length - i = d → d + 100 < k →
    spec_l14Counts.l0 k (G.countsB n (R.take i)) R R.length i F L R0 = some (G.countsB n (R ++ F.flatten)) := by
  induction d with
  | zero =>
    intro i k hi hd hk
    obtain ⟨k, rfl⟩ : ∃ m, k = m + 1 := ⟨k - 1, by omega⟩
    obtain rfl : i = R.length := by omega
    simp only [spec_l14Counts.l0]
    have := counts_l1 n F hF hrows F.length 0 k R (by omega) (by omega) (by omega) (by omega)
    rw [if_neg (by omega), List.take_length, show (0 : Int) = ((0 : Nat) : Int) from rfl, this, List.drop_zero]
  | succ d ih =>
    intro i k hi hd hk
    obtain ⟨k, rfl⟩ : ∃ m, k = m + 1 := ⟨k - 1, by omega⟩
    have hlt : i < R.length := by omega
    have hc : ((i : Int) + 1) = ((i + 1 : Nat) : Int) := by omega
    have ht : R.take (i + 1) = R.take i ++ [R[i]] := List.take_succ_eq_append_getElem hlt
    have hx := hroots R[i] (List.getElem_mem hlt)
    have n1 := ih (i + 1) k (by omega) (by omega) (by omega)
    rw [ht] at n1
    simp only [spec_l14Counts.l0]
    rw [if_pos (by omega), if_pos (by omega), if_pos (by omega), rd_at R i hlt, wrap_in (x := (i : Int) + 1) (by omega) (by omega), hc]
    by_cases h0 : 0 ≤ R[i]
    · rw [if_pos (show R[i] ≥ 0 from h0), if_pos h0, if_pos (by rw [G.countsB_length]; exact hx), counts_put n _ _ (by rw [List.length_take]; omega) hx h0, n1]
    · rw [if_neg (show ¬ R[i] ≥ 0 from h0)]
      rw [G.countsB_neg n _ _ (by omega)] at n1
      exact n1
theorem counts_swap (n : Nat) (a b : List Int) : G.countsB n (a ++ b) = G.countsB n (b ++ a) := by
  unfold G.countsB
  apply List.map_congr_left
  intro k _
  rw [List.countP_append, List.countP_append, Nat.add_comm]
theorem spec_counts_eq (F : List (List Int)) (L : List Bool) (R : List Int) (hg : G.goodHeapB F L R 12 = true) (k : Nat) (hk : 200 < k) : spec_l14Counts.f k F L R = some (G.countsB F.length (F.flatten ++ R)) := by
  obtain ⟨q1, q2, q3, q4, q5⟩ := good_parts hg
  have ok := good_ok hg
  unfold spec_l14Counts.f
  have := counts_l0 F.length F L R R q1 ok.rows q3 ok.fr R.length 0 k (by omega) (by omega) (by omega)
  rw [List.take_zero, G.countsB_nil] at this
  rw [if_pos (by omega), if_pos (by simp; omega), Int.toNat_natCast, show (0 : Int) = ((0 : Nat) : Int) from rfl]
  rw [show ((0 : Nat) : Int) = 0 from rfl] at this ⊢
  rw [this, counts_swap]
theorem impl_counts_eq (F : List (List Int)) (L : List Bool) (R : List Int) (hg : G.goodHeapB F L R 12 = true) : impl_Heap_counts.f F L R = some (G.countsB F.length (F.flatten ++ R)) := by
  obtain ⟨q1, q2, q3, q4, q5⟩ := good_parts hg
  unfold impl_Heap_counts.f
  rw [if_pos ⟨good_okFrom hg, q2, q1, q3⟩]
/-- One name less. -/
def decB (h : Bool) (c : List Int) (x : Int) : List Int := if 0 ≤ x ∧ h = true then c.set x.toNat (wrap64 (rd c x - 1)) else c
theorem decB_len (h : Bool) (c : List Int) (x : Int) : (decB h c x).length = c.length := by unfold decB; split <;> simp
theorem dec_fold_len (h : Bool) (row : List Int) : ∀ c : List Int, (row.foldl (decB h) c).length = c.length := by
  induction row with
  | nil => intro c; rfl
  | cons x row ih => intro c; rw [List.foldl_cons, ih, decB_len]
def decAll (H : List Bool) : List (List Int) → Nat → List Int → List Int
  | [], _, c => c
  | f :: fs, k, c => decAll H fs (k + 1) (f.foldl (decB (H.getD k false)) c)
theorem decAll_len (H : List Bool) : ∀ (F : List (List Int)) (k : Nat) (c : List Int), (decAll H F k c).length = c.length := by
  intro F
  induction F with
  | nil => intro k c; rfl
  | cons f F ih => intro k c; simp only [decAll]; rw [ih, dec_fold_len]
def zeroAll (H : List Bool) : Nat → Nat → List Int → List Int
  | 0, _, c => c
  | d + 1, k, c => zeroAll H d (k + 1) (if H.getD k false = true then c else c.set k 0)
theorem zeroAll_len (H : List Bool) : ∀ (d k : Nat) (c : List Int), (zeroAll H d k c).length = c.length := by
  intro d
  induction d with
  | zero => intro k c; rfl
  | succ d ih => intro k c; simp only [zeroAll]; rw [ih]; split <;> simp
theorem spec_l14Outer_l2 (H : List Bool) (d : Nat) : ∀ (i k : Nat) (c : List Int), H.length = c.length → c.length ≤ 12 → i ≤ c.length → c.length - i = d → d < k →
    spec_l14Outer.l2 k H c c.length i = some (zeroAll H d i c) := by
  induction d with
  | zero =>
    intro i k c hH hc hi hd hk
    obtain ⟨k, rfl⟩ : ∃ m, k = m + 1 := ⟨k - 1, by omega⟩
    obtain rfl : i = c.length := by omega
    simp only [spec_l14Outer.l2]
    rw [if_neg (by omega)]; rfl
  | succ d ih =>
    intro i k c hH hc hi hd hk
    obtain ⟨k, rfl⟩ : ∃ m, k = m + 1 := ⟨k - 1, by omega⟩
    have hlt : i < c.length := by omega
    have e : ((i : Int) + 1) = ((i + 1 : Nat) : Int) := by omega
    simp only [spec_l14Outer.l2, zeroAll]
    rw [if_pos (by omega), if_pos (by omega), if_pos (by omega), rdOf_nat, wrap_in (by omega) (by omega), e]
    cases H.getD i false with
    | true => rw [if_pos rfl, if_pos rfl]; exact ih (i + 1) k c hH hc (by omega) (by omega) (by omega)
    | false =>
      rw [if_neg (show ¬ (false = true) by simp), if_neg (show ¬ (false = true) by simp), if_pos (by omega), Int.toNat_natCast]
      have := ih (i + 1) k (c.set i 0) (by rw [List.length_set]; exact hH) (by rw [List.length_set]; exact hc) (by rw [List.length_set]; omega) (by rw [List.length_set]; omega) (by omega)
      rw [List.length_set] at this
      exact this
theorem spec_l14Outer_l1 (F : List (List Int)) (H : List Bool) (kk : Nat) (row : List Int) (d : Nat) : ∀ (i k m : Nat) (c : List Int), H.length = c.length → kk < H.length → (∀ x ∈ row, x < (c.length : Int)) → row.length ≤ 3 → i ≤ row.length → row.length - i = d → d + 1 + m ≤ k →
    ∃ k', m ≤ k' ∧ spec_l14Outer.l1 k H c kk F F.length kk row row.length i = spec_l14Outer.l0 k' H ((row.drop i).foldl (decB (H.getD kk false)) c) F F.length (wrap64 ((kk : Int) + 1)) := by
  induction d with
  | zero =>
    intro i k m c hH hkk hrow hr3 hi hd hk
    obtain ⟨k, rfl⟩ : ∃ m, k = m + 1 := ⟨k - 1, by omega⟩
    obtain rfl : i = row.length := by omega
    refine ⟨k, by omega, ?_⟩
    simp only [spec_l14Outer.l1]
    rw [if_neg (by omega), List.drop_length]; rfl
  | succ d ih =>
    intro i k m c hH hkk hrow hr3 hi hd hk
    obtain ⟨k, rfl⟩ : ∃ m, k = m + 1 := ⟨k - 1, by omega⟩
    have hlt : i < row.length := by omega
    have e : ((i : Int) + 1) = ((i + 1 : Nat) : Int) := by omega
    have hx := hrow row[i] (List.getElem_mem hlt)
    obtain ⟨k', hk', e1⟩ := ih (i + 1) k m (decB (H.getD kk false) c row[i]) (by rw [decB_len]; exact hH) hkk (by rw [decB_len]; exact hrow) hr3 (by omega) (by omega) (by omega)
    refine ⟨k', hk', ?_⟩
    rw [List.drop_eq_getElem_cons hlt, List.foldl_cons, ← e1]
    have hkk0 : (0 : Int) ≤ (kk : Int) := by omega
    have hkk1 : (kk : Int) < (H.length : Int) := by omega
    simp only [spec_l14Outer.l1]
    rw [if_pos (by omega), if_pos (by omega), if_pos (by omega), rd_at row i hlt, rdOf_nat, wrap_in (x := (i : Int) + 1) (by omega) (by omega), e]
    unfold decB
    by_cases h0 : 0 ≤ row[i]
    · cases H.getD kk false with
      | true => simp only [ge_iff_le, h0, hkk0, hkk1, hx, if_true, and_self]
      | false => simp only [ge_iff_le, h0, hkk0, hkk1, if_true, Bool.false_eq_true, and_false, if_false]
    · cases H.getD kk false with
      | true => simp only [ge_iff_le, h0, hkk0, hkk1, if_true, false_and, if_false]
      | false => simp only [ge_iff_le, h0, hkk0, hkk1, if_true, Bool.false_eq_true, and_false, if_false]
theorem spec_l14Outer_l0 (F : List (List Int)) (H : List Bool) (hHF : H.length = F.length) (hF : F.length ≤ 12) (hrows : ∀ f ∈ F, f.length ≤ 3 ∧ ∀ x ∈ f, x < (F.length : Int)) (d : Nat) : ∀ (j k : Nat) (c : List Int), c.length = F.length → j ≤ F.length → F.length - j = d → d * 6 + 20 < k →
    spec_l14Outer.l0 k H c F F.length j = some (zeroAll H F.length 0 (decAll H (F.drop j) j c)) := by
  induction d with
  | zero =>
    intro j k c hc hj hd hk
    obtain ⟨k, rfl⟩ : ∃ m, k = m + 1 := ⟨k - 1, by omega⟩
    obtain rfl : j = F.length := by omega
    simp only [spec_l14Outer.l0]
    rw [if_neg (by omega), List.drop_length]
    have := spec_l14Outer_l2 H c.length 0 k c (by omega) (by omega) (by omega) (by omega) (by omega)
    rw [show (0 : Int) = ((0 : Nat) : Int) from rfl, this, hc]; rfl
  | succ d ih =>
    intro j k c hc hj hd hk
    obtain ⟨k, rfl⟩ : ∃ m, k = m + 1 := ⟨k - 1, by omega⟩
    have hlt : j < F.length := by omega
    have hr := hrows F[j] (List.getElem_mem hlt)
    obtain ⟨k', hk', e⟩ := spec_l14Outer_l1 F H j F[j] F[j].length 0 k (d * 6 + 21) c (by omega) (by omega) (by rw [hc]; exact hr.2) hr.1 (by omega) (by omega) (by omega)
    have hcc : ((j : Int) + 1) = ((j + 1 : Nat) : Int) := by omega
    rw [List.drop_zero, wrap_in (by omega) (by omega), hcc] at e
    have n1 := ih (j + 1) k' (F[j].foldl (decB (H.getD j false)) c) (by rw [dec_fold_len]; exact hc) (by omega) (by omega) (by omega)
    simp only [spec_l14Outer.l0]
    rw [if_pos (by omega), if_pos (by omega), if_pos (by omega), rdL2_at F j hlt, show (0 : Int) = ((0 : Nat) : Int) from rfl, e, n1, List.drop_eq_getElem_cons hlt]
    rfl
theorem impl_Heap_outer_l2 (H : List Bool) (d : Nat) : ∀ (i k : Nat) (c : List Int), H.length = c.length → c.length ≤ 12 → i ≤ c.length → c.length - i = d → d < k →
    impl_Heap_outer.l2 k H c c.length i = some (zeroAll H d i c) := by
  induction d with
  | zero =>
    intro i k c hH hc hi hd hk
    obtain ⟨k, rfl⟩ : ∃ m, k = m + 1 := ⟨k - 1, by omega⟩
    obtain rfl : i = c.length := by omega
    simp only [impl_Heap_outer.l2]
    rw [if_neg (by omega)]; rfl
  | succ d ih =>
    intro i k c hH hc hi hd hk
    obtain ⟨k, rfl⟩ : ∃ m, k = m + 1 := ⟨k - 1, by omega⟩
    have hlt : i < c.length := by omega
    have e : ((i : Int) + 1) = ((i + 1 : Nat) : Int) := by omega
    simp only [impl_Heap_outer.l2, zeroAll]
    rw [if_pos (by omega), if_pos (by omega), if_pos (by omega), rdOf_nat, wrap_in (by omega) (by omega), e]
    cases H.getD i false with
    | true => rw [if_pos rfl, if_pos rfl]; exact ih (i + 1) k c hH hc (by omega) (by omega) (by omega)
    | false =>
      rw [if_neg (show ¬ (false = true) by simp), if_neg (show ¬ (false = true) by simp), if_pos (by omega), Int.toNat_natCast]
      have := ih (i + 1) k (c.set i 0) (by rw [List.length_set]; exact hH) (by rw [List.length_set]; exact hc) (by rw [List.length_set]; omega) (by rw [List.length_set]; omega) (by omega)
      rw [List.length_set] at this
      exact this
theorem impl_Heap_outer_l1 (F : List (List Int)) (H : List Bool) (kk : Nat) (row : List Int) (d : Nat) : ∀ (i k m : Nat) (c : List Int), H.length = c.length → kk < H.length → (∀ x ∈ row, x < (c.length : Int)) → row.length ≤ 3 → i ≤ row.length → row.length - i = d → d + 1 + m ≤ k →
    ∃ k', m ≤ k' ∧ impl_Heap_outer.l1 k H c kk F F.length kk row row.length i = impl_Heap_outer.l0 k' H ((row.drop i).foldl (decB (H.getD kk false)) c) F F.length (wrap64 ((kk : Int) + 1)) := by
  induction d with
  | zero =>
    intro i k m c hH hkk hrow hr3 hi hd hk
    obtain ⟨k, rfl⟩ : ∃ m, k = m + 1 := ⟨k - 1, by omega⟩
    obtain rfl : i = row.length := by omega
    refine ⟨k, by omega, ?_⟩
    simp only [impl_Heap_outer.l1]
    rw [if_neg (by omega), List.drop_length]; rfl
  | succ d ih =>
    intro i k m c hH hkk hrow hr3 hi hd hk
    obtain ⟨k, rfl⟩ : ∃ m, k = m + 1 := ⟨k - 1, by omega⟩
    have hlt : i < row.length := by omega
    have e : ((i : Int) + 1) = ((i + 1 : Nat) : Int) := by omega
    have hx := hrow row[i] (List.getElem_mem hlt)
    obtain ⟨k', hk', e1⟩ := ih (i + 1) k m (decB (H.getD kk false) c row[i]) (by rw [decB_len]; exact hH) hkk (by rw [decB_len]; exact hrow) hr3 (by omega) (by omega) (by omega)
    refine ⟨k', hk', ?_⟩
    rw [List.drop_eq_getElem_cons hlt, List.foldl_cons, ← e1]
    have hkk0 : (0 : Int) ≤ (kk : Int) := by omega
    have hkk1 : (kk : Int) < (H.length : Int) := by omega
    simp only [impl_Heap_outer.l1]
    rw [if_pos (by omega), if_pos (by omega), if_pos (by omega), rd_at row i hlt, rdOf_nat, wrap_in (x := (i : Int) + 1) (by omega) (by omega), e]
    unfold decB
    by_cases h0 : 0 ≤ row[i]
    · cases H.getD kk false with
      | true => simp only [ge_iff_le, h0, hkk0, hkk1, hx, if_true, and_self]
      | false => simp only [ge_iff_le, h0, hkk0, hkk1, if_true, Bool.false_eq_true, and_false, if_false]
    · cases H.getD kk false with
      | true => simp only [ge_iff_le, h0, hkk0, hkk1, if_true, false_and, if_false]
      | false => simp only [ge_iff_le, h0, hkk0, hkk1, if_true, Bool.false_eq_true, and_false, if_false]
theorem impl_Heap_outer_l0 (F : List (List Int)) (H : List Bool) (hHF : H.length = F.length) (hF : F.length ≤ 12) (hrows : ∀ f ∈ F, f.length ≤ 3 ∧ ∀ x ∈ f, x < (F.length : Int)) (d : Nat) : ∀ (j k : Nat) (c : List Int), c.length = F.length → j ≤ F.length → F.length - j = d → d * 6 + 20 < k →
    impl_Heap_outer.l0 k H c F F.length j = some (zeroAll H F.length 0 (decAll H (F.drop j) j c)) := by
  induction d with
  | zero =>
    intro j k c hc hj hd hk
    obtain ⟨k, rfl⟩ : ∃ m, k = m + 1 := ⟨k - 1, by omega⟩
    obtain rfl : j = F.length := by omega
    simp only [impl_Heap_outer.l0]
    rw [if_neg (by omega), List.drop_length]
    have := impl_Heap_outer_l2 H c.length 0 k c (by omega) (by omega) (by omega) (by omega) (by omega)
    rw [show (0 : Int) = ((0 : Nat) : Int) from rfl, this, hc]; rfl
  | succ d ih =>
    intro j k c hc hj hd hk
    obtain ⟨k, rfl⟩ : ∃ m, k = m + 1 := ⟨k - 1, by omega⟩
    have hlt : j < F.length := by omega
    have hr := hrows F[j] (List.getElem_mem hlt)
    obtain ⟨k', hk', e⟩ := impl_Heap_outer_l1 F H j F[j] F[j].length 0 k (d * 6 + 21) c (by omega) (by omega) (by rw [hc]; exact hr.2) hr.1 (by omega) (by omega) (by omega)
    have hcc : ((j : Int) + 1) = ((j + 1 : Nat) : Int) := by omega
    rw [List.drop_zero, wrap_in (by omega) (by omega), hcc] at e
    have n1 := ih (j + 1) k' (F[j].foldl (decB (H.getD j false)) c) (by rw [dec_fold_len]; exact hc) (by omega) (by omega) (by omega)
    simp only [impl_Heap_outer.l0]
    rw [if_pos (by omega), if_pos (by omega), if_pos (by omega), rdL2_at F j hlt, show (0 : Int) = ((0 : Nat) : Int) from rfl, e, n1, List.drop_eq_getElem_cons hlt]
    rfl
def outerB (F : List (List Int)) (R : List Int) (H : List Bool) : List Int := zeroAll H F.length 0 (decAll H F 0 (G.countsB F.length (F.flatten ++ R)))
theorem outerB_len (F : List (List Int)) (R : List Int) (H : List Bool) : (outerB F R H).length = F.length := by unfold outerB; rw [zeroAll_len, decAll_len, G.countsB_length]
theorem spec_outer_eq (F : List (List Int)) (L : List Bool) (R : List Int) (H : List Bool) (hg : G.goodHeapB F L R 12 = true) (hH : H.length = F.length) (k : Nat) (hk : 300 < k) : spec_l14Outer.f k F L R H = some (outerB F R H) := by
  obtain ⟨q1, q2, q3, q4, q5⟩ := good_parts hg
  unfold spec_l14Outer.f outerB
  rw [spec_counts_eq F L R hg k (by omega)]
  simp only [Option.bind_some]
  have := spec_l14Outer_l0 F H hH q1 (good_ok hg).rows F.length 0 k (G.countsB F.length (F.flatten ++ R)) (G.countsB_length _ _) (by omega) (by omega) (by omega)
  rw [show (0 : Int) = ((0 : Nat) : Int) from rfl, this, List.drop_zero]
theorem impl_outer_eq (F : List (List Int)) (L : List Bool) (R : List Int) (H : List Bool) (hg : G.goodHeapB F L R 12 = true) (hH : H.length = F.length) (k : Nat) (hk : 300 < k) : impl_Heap_outer.f k F L R H = some (outerB F R H) := by
  obtain ⟨q1, q2, q3, q4, q5⟩ := good_parts hg
  unfold impl_Heap_outer.f outerB
  rw [impl_counts_eq F L R hg]
  simp only [Option.bind_some]
  have := impl_Heap_outer_l0 F H hH q1 (good_ok hg).rows F.length 0 k (G.countsB F.length (F.flatten ++ R)) (G.countsB_length _ _) (by omega) (by omega) (by omega)
  rw [show (0 : Int) = ((0 : Nat) : Int) from rfl, this, List.drop_zero]
def outerCountsB (F : List (List Int)) (L : List Bool) (R : List Int) (H : List Bool) : List Int × Bool := if G.goodHeapB F L R 12 = true ∧ H.length = F.length then (outerB F R H, true) else ([], false)
theorem spec_OuterCounts_eq (F : List (List Int)) (L : List Bool) (R : List Int) (H : List Bool) (hb : BigH F L R) (k : Nat) (hk : 2097170 < k) : spec_OuterCounts.f k F L R H = some ((outerCountsB F L R H).1, (outerCountsB F L R H).2) := by
  unfold spec_OuterCounts.f outerCountsB
  rw [GoodHeap_eq F L R hb k (by omega)]; simp only [Option.bind_some]
  cases hg : G.goodHeapB F L R 12 with
  | false => simp
  | true =>
    rw [if_pos rfl]
    by_cases hl : H.length = F.length
    · rw [if_pos (by omega), spec_outer_eq F L R H hg hl k (by omega), if_pos ⟨rfl, hl⟩]; rfl
    · rw [if_neg (by omega), if_neg (fun h => hl h.2)]
theorem impl_OuterCounts_eq (F : List (List Int)) (L : List Bool) (R : List Int) (H : List Bool) (k : Nat) (hk : 300 < k) : impl_OuterCounts.f k F L R H = some ((outerCountsB F L R H).1, (outerCountsB F L R H).2) := by
  unfold impl_OuterCounts.f outerCountsB impl_isHeap.f
  simp only [Option.bind_some]
  cases hg : G.goodHeapB F L R 12 with
  | false => simp
  | true =>
    have q2 := (good_parts hg).2.1
    rw [if_pos rfl]
    by_cases hl : H.length = F.length
    · rw [if_pos (by omega), impl_outer_eq F L R H hg hl k (by omega), if_pos ⟨rfl, hl⟩]; rfl
    · rw [if_neg (by omega), if_neg (fun h => hl h.2)]
theorem outerCountsB_len (F : List (List Int)) (L : List Bool) (R : List Int) (H : List Bool) : (outerCountsB F L R H).1.length ≤ 1048576 := by
  unfold outerCountsB
  split
  · next hg => simp only [outerB_len]; have := (good_parts hg.1).1; omega
  · simp
theorem OuterCounts_calls (A0 A1 A2 : Option Addr) (c0 c1 c2 : Nat) (F : List (List Int)) (L : List Bool) (R : List Int) (AP : Option Addr) (cP : Nat) (l : List Bool) (w : World) (hh : G.HeapAt w A0 A1 A2 c0 c1 c2 F L R) (hr : Kd.C Kd.bool w AP l.length l) (hc : l.length ≤ cP) (hok : OkH F L R) (hl : l.length ≤ 9223372036854775807) :
    Calls Try.prog 6 #[.agg #[.slice A0 F.length c0, .slice A1 L.length c1, .slice A2 R.length c2], .slice AP l.length cP] w fun e w' => e = .returned (.bool true) ∧ Below w.heap.size w w' := by
  by_cases hq : (l.length : Int) > 1048576
  · exact OuterCounts_smallA 2097180 A0 A1 A2 c0 c1 c2 F L R AP cP l w hh hr hc hq
  obtain ⟨r, hr1, hb⟩ := szHeap_eq F L R hok 1048576 (by omega) (by omega) 2097180 (by omega)
  by_cases h : r < 0
  · exact OuterCounts_small0 2097180 A0 A1 A2 c0 c1 c2 F L R AP cP l w hh hr hc hq r (Lib.hid hr1) h
  · obtain ⟨b0, b1⟩ := hb (by omega)
    have hgl := outerCountsB_len F L R l
    exact OuterCounts_law 2097180 A0 A1 A2 c0 c1 c2 F L R AP cP l w hh hr hc hq r (Lib.hid hr1) (by omega) _ _ (Lib.hid (toHeap_eq F L R b1 2097180 (by omega))) (Lib.hid (toBoolS_eq l (by omega) 2097180 (by omega)))
      (Lib.hid (spec_OuterCounts_eq F L R l b1 2097180 (by omega))) (Lib.hid (impl_OuterCounts_eq F L R l 2097180 (by omega))) (Lib.hid (eqIntS_eq _ hgl 2097180 (by omega))) (Lib.hid (eqHeap_eq F L R b1 2097180 (by omega)))
      (Lib.hid (eqBoolS_eq l (by omega) 2097180 (by omega))) (by omega) (Lib.hid (heldIntS_eq _ hgl 2097180 (by omega))) b1.f.1 b1.f.2 b1.l b1.r hgl

end Go.Proofs.Ytemgbakjlbdibaa.QB
