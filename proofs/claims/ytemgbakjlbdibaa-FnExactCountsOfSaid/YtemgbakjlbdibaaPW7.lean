import Derived.Test.YtemgbakjlbdibaaPH
import Derived.Test.YtemgbakjlbdibaaLawW
namespace Go.Proofs.Ytemgbakjlbdibaa.QB
open Go.RowKit Go.Joins Go.ChangeShapes Go.WideShapes Go.Proofs.YtemgbakjlbdibaaW.PrintWords
set_option linter.unusedVariables false
theorem isRef_lt {L : List Bool} {x : Int} (h : G.isRefB L x = true) : x < (L.length : Int) := by
  unfold G.isRefB at h
  simp only [Bool.or_eq_true, beq_iff_eq, Bool.and_eq_true, decide_eq_true_eq] at h
  rcases h with h | ⟨h0, h1⟩
  · omega
  · by_cases hk : x.toNat < L.length
    · omega
    · rw [getD_neg (by omega)] at h1; cases h1
theorem good_parts {F : List (List Int)} {L : List Bool} {R : List Int} (h : G.goodHeapB F L R 12 = true) :
    F.length ≤ 12 ∧ L.length = F.length ∧ R.length ≤ 4 ∧ (∀ f ∈ F, f.length ≤ 3 ∧ ∀ x ∈ f, G.isRefB L x = true) ∧ ∀ x ∈ R, G.isRefB L x = true := by
  unfold G.goodHeapB at h
  simp only [Bool.and_eq_true, decide_eq_true_eq, List.all_eq_true, List.mem_range] at h
  obtain ⟨⟨⟨⟨h1, h2⟩, h3⟩, h4⟩, h5⟩ := h
  refine ⟨by omega, h2, h3, fun f hf => ?_, h5⟩
  obtain ⟨k, hk, rfl⟩ := List.getElem_of_mem hf
  have := h4 k hk
  simp only [List.getD_eq_getElem?_getD, List.getElem?_eq_getElem hk, Option.getD_some] at this
  exact ⟨this.1.1, this.2⟩
theorem good_ok {F : List (List Int)} {L : List Bool} {R : List Int} (h : G.goodHeapB F L R 12 = true) : G.ReachOk F R := by
  obtain ⟨h1, h2, h3, h4, h5⟩ := good_parts h
  exact ⟨by omega, fun x hx => by rw [← h2]; exact isRef_lt (h5 x hx), fun f hf => ⟨(h4 f hf).1, fun x hx => by rw [← h2]; exact isRef_lt ((h4 f hf).2 x hx)⟩⟩
theorem good_okFrom {F : List (List Int)} {L : List Bool} {R : List Int} (h : G.goodHeapB F L R 12 = true) : G.okFrom F R = true :=
  G.okFrom_iff.2 ⟨good_ok h, by have := (good_parts h).2.2.1; omega⟩
/-- What has been marked stands as marked. -/
theorem heldIntS_eq (n : Nat) (hn : n ≤ 1048576) (k : Nat) (hk : n < k) : laws_heldIntS.f k (G.markI n 1) 1 = some (1 + (n : Int)) := by
  unfold laws_heldIntS.f
  have := loop_val (fun k i => laws_heldIntS.l0 k (G.markI n 1) (1 + (i : Int)) i) n 0 (some (1 + (n : Int))) ?_ ?_ k (by omega)
  · simpa using this
  · intro k i _ h
    simp only [laws_heldIntS.l0]
    have e : rd (G.markI n 1) (i : Int) = 1 + (i : Int) := by
      rw [rd_nat]; simp [G.markI, h]
    rw [if_pos (by rw [G.markI_length]; omega), if_pos (by omega), e, if_pos rfl, wrap_in (by omega) (by omega), wrap_in (by omega) (by omega)]
    rw [show 1 + (i : Int) + 1 = 1 + ((i + 1 : Nat) : Int) by omega, show (i : Int) + 1 = ((i + 1 : Nat) : Int) by omega]
  · intro k _
    simp only [laws_heldIntS.l0]
    rw [if_neg (by rw [G.markI_length]; omega)]
theorem counts_put (n : Nat) (ys : List Int) (x : Int) (hy : ys.length ≤ 1000) (hx : x < (n : Int)) (h0 : 0 ≤ x) :
    (G.countsB n ys).set x.toNat (wrap64 (rd (G.countsB n ys) x + 1)) = G.countsB n (ys ++ [x]) := by
  obtain ⟨k, rfl⟩ := Int.eq_ofNat_of_zero_le h0
  have hb := G.countsB_le n ys k
  have e : rd (G.countsB n ys) (k : Int) = (G.countsB n ys).getD k 0 := by unfold rd; simp
  rw [e, wrap_in (by omega) (by omega), Int.toNat_natCast, G.countsB_snoc n ys k (by omega)]
theorem counts_l2 (n : Nat) (F : List (List Int)) (j : Int) (row : List Int) (hrow : ∀ x ∈ row, x < (n : Int)) (d : Nat) : ∀ (i k m : Nat) (ys : List Int), i ≤ row.length → row.length - i = d → d + 1 + m ≤ k → ys.length + row.length ≤ 1000 →
    ∃ k', m ≤ k' ∧ spec_l14Counts.l2 k (G.countsB n (ys ++ row.take i)) F F.length j row row.length i = spec_l14Counts.l1 k' (G.countsB n (ys ++ row)) F F.length (wrap64 (j + 1)) := by
  induction d with
  | zero =>
    intro i k m ys hi hd hk hy
    obtain ⟨k, rfl⟩ : ∃ m, k = m + 1 := ⟨k - 1, by omega⟩
    obtain rfl : i = row.length := by omega
    refine ⟨k, by omega, ?_⟩
    simp only [spec_l14Counts.l2]
    rw [if_neg (by omega), List.take_length]
  | succ d ih =>
    intro i k m ys hi hd hk hy
    obtain ⟨k, rfl⟩ : ∃ m, k = m + 1 := ⟨k - 1, by omega⟩
    have hlt : i < row.length := by omega
    obtain ⟨k', hk', e⟩ := ih (i + 1) k m ys (by omega) (by omega) (by omega) hy
    refine ⟨k', hk', ?_⟩
    rw [← e]
    have hc : ((i : Int) + 1) = ((i + 1 : Nat) : Int) := by omega
    have ht : ys ++ row.take (i + 1) = (ys ++ row.take i) ++ [row[i]] := by rw [List.take_succ_eq_append_getElem hlt, List.append_assoc]
    have hx := hrow row[i] (List.getElem_mem hlt)
    simp only [spec_l14Counts.l2]
    rw [if_pos (by omega), if_pos (by omega), if_pos (by omega), rd_at row i hlt, wrap_in (x := (i : Int) + 1) (by omega) (by omega), hc, ht]
    by_cases h0 : 0 ≤ row[i]
    · rw [if_pos (show row[i] ≥ 0 from h0), if_pos h0, if_pos (by rw [G.countsB_length]; exact hx), counts_put n _ _ (by rw [List.length_append, List.length_take]; omega) hx h0]
    · rw [if_neg (show ¬ row[i] ≥ 0 from h0), G.countsB_neg n _ _ (by omega)]
theorem counts_l1 (n : Nat) (F : List (List Int)) (hF : F.length ≤ 12) (hrows : ∀ f ∈ F, f.length ≤ 3 ∧ ∀ x ∈ f, x < (n : Int)) (d : Nat) : ∀ (j k : Nat) (ys : List Int), j ≤ F.length → F.length - j = d → d * 6 + 1 < k → ys.length + 4 * d ≤ 900 →
    spec_l14Counts.l1 k (G.countsB n ys) F F.length j = some (G.countsB n (ys ++ (F.drop j).flatten)) := by
  induction d with
  | zero =>
    intro j k ys hj hd hk hy
    obtain ⟨k, rfl⟩ : ∃ m, k = m + 1 := ⟨k - 1, by omega⟩
    obtain rfl : j = F.length := by omega
    simp only [spec_l14Counts.l1]
    rw [if_neg (by omega), List.drop_length]; simp
  | succ d ih =>
    intro j k ys hj hd hk hy
    obtain ⟨k, rfl⟩ : ∃ m, k = m + 1 := ⟨k - 1, by omega⟩
    have hlt : j < F.length := by omega
    have hr := hrows F[j] (List.getElem_mem hlt)
    obtain ⟨k', hk', e⟩ := counts_l2 n F j F[j] hr.2 F[j].length 0 k (d * 6 + 2) ys (by omega) (by omega) (by omega) (by omega)
    have hc : ((j : Int) + 1) = ((j + 1 : Nat) : Int) := by omega
    rw [List.take_zero, List.append_nil, wrap_in (by omega) (by omega), hc] at e
    have n1 := ih (j + 1) k' (ys ++ F[j]) (by omega) (by omega) (by omega) (by rw [List.length_append]; omega)
    simp only [spec_l14Counts.l1]
    rw [if_pos (by omega), if_pos (by omega), if_pos (by omega), rdL2_at F j hlt, show (0 : Int) = ((0 : Nat) : Int) from rfl, e, n1, List.drop_eq_getElem_cons hlt, List.flatten_cons, List.append_assoc]
theorem counts_l0 (n : Nat) (F : List (List Int)) (L : List Bool) (R0 R : List Int) (hF : F.length ≤ 12) (hrows : ∀ f ∈ F, f.length ≤ 3 ∧ ∀ x ∈ f, x < (n : Int)) (hR : R.length ≤ 4) (hroots : ∀ x ∈ R, x < (n : Int)) (d : Nat) : ∀ (i k : Nat), i ≤ R.length → R.length - i = d → d + 100 < k →
    spec_l14Counts.l0 k (G.countsB n (R.take i)) R R.length i F L R0 = some (G.countsB n (R ++ F.flatten)) := by
  induction d with
  | zero =>
    intro i k hi hd hk
    obtain ⟨k, rfl⟩ : ∃ m, k = m + 1 := ⟨k - 1, by omega⟩
    obtain rfl : i = R.length := by omega
    simp only [spec_l14Counts.l0]
    have := counts_l1 n F hF hrows F.length 0 k R (by omega) (by omega) (by omega) (by omega)
    rw [if_neg (by omega), List.take_length, show (0 : Int) = ((0 : Nat) : Int) from rfl, this, List.drop_zero]
  | succ d ih =>
    intro i k hi hd hk
    obtain ⟨k, rfl⟩ : ∃ m, k = m + 1 := ⟨k - 1, by omega⟩
    have hlt : i < R.length := by omega
    have hc : ((i : Int) + 1) = ((i + 1 : Nat) : Int) := by omega
    have ht : R.take (i + 1) = R.take i ++ [R[i]] := List.take_succ_eq_append_getElem hlt
    have hx := hroots R[i] (List.getElem_mem hlt)
    have n1 := ih (i + 1) k (by omega) (by omega) (by omega)
    rw [ht] at n1
    simp only [spec_l14Counts.l0]
    rw [if_pos (by omega), if_pos (by omega), if_pos (by omega), rd_at R i hlt, wrap_in (x := (i : Int) + 1) (by omega) (by omega), hc]
    by_cases h0 : 0 ≤ R[i]
    · rw [if_pos (show R[i] ≥ 0 from h0), if_pos h0, if_pos (by rw [G.countsB_length]; exact hx), counts_put n _ _ (by rw [List.length_take]; omega) hx h0, n1]
    · rw [if_neg (show ¬ R[i] ≥ 0 from h0)]
      rw [G.countsB_neg n _ _ (by omega)] at n1
      exact n1
theorem counts_swap (n : Nat) (a b : List Int) : G.countsB n (a ++ b) = G.countsB n (b ++ a) := by
  unfold G.countsB
  apply List.map_congr_left
  intro k _
  rw [List.countP_append, List.countP_append, Nat.add_comm]
theorem spec_counts_eq (F : List (List Int)) (L : List Bool) (R : List Int) (hg : G.goodHeapB F L R 12 = true) (k : Nat) (hk : 200 < k) : spec_l14Counts.f k F L R = some (G.countsB F.length (F.flatten ++ R)) := by
  obtain ⟨q1, q2, q3, q4, q5⟩ := good_parts hg
  have ok := good_ok hg
  unfold spec_l14Counts.f
  have := counts_l0 F.length F L R R q1 ok.rows q3 ok.fr R.length 0 k (by omega) (by omega) (by omega)
  rw [List.take_zero, G.countsB_nil] at this
  rw [if_pos (by omega), if_pos (by simp; omega), Int.toNat_natCast, show (0 : Int) = ((0 : Nat) : Int) from rfl]
  rw [show ((0 : Nat) : Int) = 0 from rfl] at this ⊢
  rw [this, counts_swap]
theorem impl_counts_eq (F : List (List Int)) (L : List Bool) (R : List Int) (hg : G.goodHeapB F L R 12 = true) : impl_Heap_counts.f F L R = some (G.countsB F.length (F.flatten ++ R)) := by
  obtain ⟨q1, q2, q3, q4, q5⟩ := good_parts hg
  unfold impl_Heap_counts.f
  rw [if_pos ⟨good_okFrom hg, q2, q1, q3⟩]
def countsOfB (F : List (List Int)) (L : List Bool) (R : List Int) : List Int × Bool := if G.goodHeapB F L R 12 = true then (G.countsB F.length (F.flatten ++ R), true) else ([], false)
theorem spec_CountsOf_eq (F : List (List Int)) (L : List Bool) (R : List Int) (hb : BigH F L R) (k : Nat) (hk : 2097170 < k) : spec_CountsOf.f k F L R = some ((countsOfB F L R).1, (countsOfB F L R).2) := by
  unfold spec_CountsOf.f countsOfB
  rw [GoodHeap_eq F L R hb k (by omega)]; simp only [Option.bind_some]
  cases hg : G.goodHeapB F L R 12 with
  | false => simp
  | true => simp [spec_counts_eq F L R hg k (by omega)]
theorem impl_CountsOf_eq (F : List (List Int)) (L : List Bool) (R : List Int) : impl_CountsOf.f F L R = some ((countsOfB F L R).1, (countsOfB F L R).2) := by
  unfold impl_CountsOf.f countsOfB impl_isHeap.f
  simp only [Option.bind_some]
  cases hg : G.goodHeapB F L R 12 with
  | false => simp
  | true => simp [impl_counts_eq F L R hg]
theorem countsOfB_len (F : List (List Int)) (L : List Bool) (R : List Int) : (countsOfB F L R).1.length ≤ 1048576 := by
  unfold countsOfB
  split
  · next hg => simp only [G.countsB_length]; have := (good_parts hg).1; omega
  · simp
theorem CountsOf_calls (A0 A1 A2 : Option Addr) (c0 c1 c2 : Nat) (F : List (List Int)) (L : List Bool) (R : List Int) (w : World) (hh : G.HeapAt w A0 A1 A2 c0 c1 c2 F L R) (hok : OkH F L R) :
    Calls Try.prog 4 #[.agg #[.slice A0 F.length c0, .slice A1 L.length c1, .slice A2 R.length c2]] w fun e w' => e = .returned (.bool true) ∧ Below w.heap.size w w' := by
  obtain ⟨r, hr1, hb⟩ := szHeap_eq F L R hok 1048576 (by omega) (by omega) 2097180 (by omega)
  by_cases h : r < 0
  · exact CountsOf_small0 2097180 A0 A1 A2 c0 c1 c2 F L R w hh r (Lib.hid hr1) h
  · obtain ⟨b0, b1⟩ := hb (by omega)
    have hgl := countsOfB_len F L R
    exact CountsOf_law 2097180 A0 A1 A2 c0 c1 c2 F L R w hh r (Lib.hid hr1) (by omega) _ _ (Lib.hid (toHeap_eq F L R b1 2097180 (by omega)))
      (Lib.hid (spec_CountsOf_eq F L R b1 2097180 (by omega))) (Lib.hid (impl_CountsOf_eq F L R)) (Lib.hid (eqIntS_eq _ hgl 2097180 (by omega))) (Lib.hid (eqHeap_eq F L R b1 2097180 (by omega)))
      (Lib.hid (heldIntS_eq _ hgl 2097180 (by omega))) b1.f.1 b1.f.2 b1.l b1.r hgl

end Go.Proofs.Ytemgbakjlbdibaa.QB
