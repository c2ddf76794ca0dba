import Derived.Test.YtemgbakjlbdibaaPH
import Derived.Test.YtemgbakjlbdibaaLawW
namespace Go.Proofs.Ytemgbakjlbdibaa.QB
open Go.RowKit Go.Joins Go.ChangeShapes Go.WideShapes Go.Proofs.YtemgbakjlbdibaaW.PrintWords
set_option linter.unusedVariables false
theorem isRef_lt {L : List Bool} {x : Int} (h : G.isRefB L x = true) : x < (L.length : Int) := by
  unfold G.isRefB at h
  simp only [Bool.or_eq_true, beq_iff_eq, Bool.and_eq_true, decide_eq_true_eq] at h
  rcases h with h | ⟨h0, h1⟩
  · omega
  · by_cases hk : x.toNat < L.length
    · omega
    · rw [getD_neg (by omega)] at h1; cases h1
theorem good_parts {F : List (List Int)} {L : List Bool} {R : List Int} (h : G.goodHeapB F L R 12 = true) :
    F.length ≤ 12 ∧ L.length = F.length ∧ R.length ≤ 4 ∧ (∀ f ∈ F, f.length ≤ 3 ∧ ∀ x ∈ f, G.isRefB L x = true) ∧ ∀ x ∈ R, G.isRefB L x = true := by
  unfold G.goodHeapB at h
  simp only [Bool.and_eq_true, decide_eq_true_eq, List.all_eq_true, List.mem_range] at h
  obtain ⟨⟨⟨⟨h1, h2⟩, h3⟩, h4⟩, h5⟩ := h
  refine ⟨by omega, h2, h3, fun f hf => ?_, h5⟩
  obtain ⟨k, hk, rfl⟩ := List.getElem_of_mem hf
  have := h4 k hk
  simp only [List.getD_eq_getElem?_getD, List.getElem?_eq_getElem hk, Option.getD_some] at this
  exact ⟨this.1.1, this.2⟩
theorem good_ok {F : List (List Int)} {L : List Bool} {R : List Int} (h : G.goodHeapB F L R 12 = true) : G.ReachOk F R := by
  obtain ⟨h1, h2, h3, h4, h5⟩ := good_parts h
  exact ⟨by omega, fun x hx => by rw [← h2]; exact isRef_lt (h5 x hx), fun f hf => ⟨(h4 f hf).1, fun x hx => by rw [← h2]; exact isRef_lt ((h4 f hf).2 x hx)⟩⟩
theorem good_okFrom {F : List (List Int)} {L : List Bool} {R : List Int} (h : G.goodHeapB F L R 12 = true) : G.okFrom F R = true :=
  G.okFrom_iff.2 ⟨good_ok h, by have := (good_parts h).2.2.1; omega⟩
/-- What has been marked stands as marked. -/
theorem heldIntS_eq (n : Nat) (hn : n ≤ 1048576) (k : Nat) (hk : n < k) : laws_heldIntS.f k (G.markI n 1) 1 = some (1 + (n : Int)) := by
  unfold laws_heldIntS.f
  have := loop_val (fun k i => laws_heldIntS.l0 k (G.markI n 1) (1 + (i : Int)) i) n 0 (some (1 + (n : Int))) ?_ ?_ k (by omega)
  · simpa using this
  · intro k i _ h
    simp only [laws_heldIntS.l0]
    have e : rd (G.markI n 1) (i : Int) = 1 + (i : Int) := by
      rw [rd_nat]; simp [G.markI, h]
    rw [if_pos (by rw [G.markI_length]; omega), if_pos (by omega), e, if_pos rfl, wrap_in (by omega) (by omega), wrap_in (by omega) (by omega)]
    rw [show 1 + (i : Int) + 1 = 1 + ((i + 1 : Nat) : Int) by omega, show (i : Int) + 1 = ((i + 1 : Nat) : Int) by omega]
  · intro k _
    simp only [laws_heldIntS.l0]
    rw [if_neg (by rw [G.markI_length]; omega)]
theorem has_go (a : Int) (l : List Int) (hn : l.length ≤ 1048576) (d : Nat) : ∀ (i k : Nat), i ≤ l.length → l.length - i = d → d < k → spec_l1Has.l0 k a l l.length i = some ((l.drop i).any (· == a)) := by
  induction d with
  | zero =>
    intro i k hi hd hk
    obtain ⟨k, rfl⟩ : ∃ m, k = m + 1 := ⟨k - 1, by omega⟩
    obtain rfl : i = l.length := by omega
    simp only [spec_l1Has.l0]
    rw [if_neg (by omega), List.drop_length]; rfl
  | succ d ih =>
    intro i k hi hd hk
    obtain ⟨k, rfl⟩ : ∃ m, k = m + 1 := ⟨k - 1, by omega⟩
    have hlt : i < l.length := by omega
    have hc : ((i : Int) + 1) = ((i + 1 : Nat) : Int) := by omega
    simp only [spec_l1Has.l0]
    rw [if_pos (by omega), if_pos (by omega), if_pos (by omega), rd_at l i hlt, wrap_in (by omega) (by omega), hc, List.drop_eq_getElem_cons hlt, List.any_cons, ih (i + 1) k (by omega) (by omega) (by omega)]
    by_cases h : l[i] = a
    · rw [if_pos h]; simp [h]
    · rw [if_neg h]; simp [h]
theorem has_eq (a : Int) (l : List Int) (hn : l.length ≤ 1048576) (k : Nat) (hk : l.length < k) : spec_l1Has.f k l a = some (l.any (· == a)) := by
  unfold spec_l1Has.f
  have := has_go a l hn l.length 0 k (by omega) (by omega) hk
  simpa using this
theorem index_go (a : Int) (l : List Int) (hn : l.length ≤ 1048576) (d : Nat) : ∀ (i k : Nat), i ≤ l.length → l.length - i = d → d < k → ∃ r, slices_Index_int_int.l0 k l a l.length i = some r ∧ decide (r ≥ 0) = (l.drop i).any (· == a) := by
  induction d with
  | zero =>
    intro i k hi hd hk
    obtain ⟨k, rfl⟩ : ∃ m, k = m + 1 := ⟨k - 1, by omega⟩
    obtain rfl : i = l.length := by omega
    refine ⟨-1, ?_, by rw [List.drop_length]; rfl⟩
    simp only [slices_Index_int_int.l0]
    rw [if_neg (by omega)]
  | succ d ih =>
    intro i k hi hd hk
    obtain ⟨k, rfl⟩ : ∃ m, k = m + 1 := ⟨k - 1, by omega⟩
    have hlt : i < l.length := by omega
    have hc : ((i : Int) + 1) = ((i + 1 : Nat) : Int) := by omega
    obtain ⟨r, h1, h2⟩ := ih (i + 1) k (by omega) (by omega) (by omega)
    rw [List.drop_eq_getElem_cons hlt, List.any_cons]
    simp only [slices_Index_int_int.l0]
    rw [if_pos (by omega), if_pos (by omega), if_pos (by omega), rd_at l i hlt, wrap_in (by omega) (by omega), hc]
    by_cases h : a = l[i]
    · rw [if_pos h]; exact ⟨_, rfl, by simp [← h]⟩
    · rw [if_neg h]; exact ⟨r, h1, by rw [h2]; simp [show ¬ l[i] = a from fun e => h e.symm]⟩
theorem contains_eq (a : Int) (l : List Int) (hn : l.length ≤ 1048576) (k : Nat) (hk : l.length < k) : slices_Contains_int_int.f k l a = some (l.any (· == a)) := by
  unfold slices_Contains_int_int.f slices_Index_int_int.f
  obtain ⟨r, h1, h2⟩ := index_go a l hn l.length 0 k (by omega) (by omega) hk
  rw [show (0 : Int) = ((0 : Nat) : Int) from rfl, h1]
  simp only [Option.bind_some]
  rw [List.drop_zero] at h2
  exact congrArg some h2
/-- The objects with a field that names it. -/
def byF (a : Int) : List (List Int) → Nat → List Int
  | [], _ => []
  | f :: fs, i => (if f.any (· == a) = true then [(i : Int)] else []) ++ byF a fs (i + 1)
theorem byF_len (a : Int) : ∀ (l : List (List Int)) (i : Nat), (byF a l i).length ≤ l.length := by
  intro l
  induction l with
  | nil => intro i; simp [byF]
  | cons p ps ih =>
    intro i
    simp only [byF, List.length_append, List.length_cons]
    have := ih (i + 1)
    split <;> simp <;> omega
theorem spec_NamesTo_loop (a : Int) (F : List (List Int)) (hF : F.length ≤ 12) (hs : ∀ f ∈ F, f.length ≤ 3) (d : Nat) : ∀ (i k : Nat) (acc : List Int), i ≤ F.length → F.length - i = d → acc.length ≤ i → d + 10 < k →
    spec_NamesTo.l0 k a acc F F.length i = some (acc ++ byF a (F.drop i) i, true) := by
  induction d with
  | zero =>
    intro i k acc hi hd ha hk
    obtain ⟨k, rfl⟩ : ∃ m, k = m + 1 := ⟨k - 1, by omega⟩
    obtain rfl : i = F.length := by omega
    simp only [spec_NamesTo.l0]
    rw [if_neg (by omega), List.drop_length]; simp [byF]
  | succ d ih =>
    intro i k acc hi hd ha hk
    obtain ⟨k, rfl⟩ : ∃ m, k = m + 1 := ⟨k - 1, by omega⟩
    have hlt : i < F.length := by omega
    have h3 := hs F[i] (List.getElem_mem hlt)
    have hc : ((i : Int) + 1) = ((i + 1 : Nat) : Int) := by omega
    simp only [spec_NamesTo.l0]
    rw [if_pos (by omega), if_pos (by omega), if_pos (by omega), rdL2_at F i hlt, has_eq a F[i] (by omega) k (by omega), wrap_in (by omega) (by omega), hc, List.drop_eq_getElem_cons hlt]
    simp only [Option.bind_some, byF]
    have n1 := ih (i + 1) k acc (by omega) (by omega) (by omega) (by omega)
    have n2 := ih (i + 1) k (acc ++ [(i : Int)]) (by omega) (by omega) (by simp; omega) (by omega)
    cases hp : F[i].any (· == a) with
    | true => rw [if_pos rfl, if_pos (by omega), if_pos rfl, n2, List.append_assoc]
    | false => rw [if_neg (by simp), if_neg (by simp), n1]; rfl
theorem impl_NamesTo_loop (a : Int) (F : List (List Int)) (hF : F.length ≤ 12) (hs : ∀ f ∈ F, f.length ≤ 3) (d : Nat) : ∀ (i k : Nat) (acc : List Int), i ≤ F.length → F.length - i = d → acc.length ≤ i → d + 10 < k →
    impl_NamesTo.l0 k a acc F F.length i = some (acc ++ byF a (F.drop i) i, true) := by
  induction d with
  | zero =>
    intro i k acc hi hd ha hk
    obtain ⟨k, rfl⟩ : ∃ m, k = m + 1 := ⟨k - 1, by omega⟩
    obtain rfl : i = F.length := by omega
    simp only [impl_NamesTo.l0]
    rw [if_neg (by omega), List.drop_length]; simp [byF]
  | succ d ih =>
    intro i k acc hi hd ha hk
    obtain ⟨k, rfl⟩ : ∃ m, k = m + 1 := ⟨k - 1, by omega⟩
    have hlt : i < F.length := by omega
    have h3 := hs F[i] (List.getElem_mem hlt)
    have hc : ((i : Int) + 1) = ((i + 1 : Nat) : Int) := by omega
    simp only [impl_NamesTo.l0]
    rw [if_pos (by omega), if_pos (by omega), if_pos (by omega), rdL2_at F i hlt, contains_eq a F[i] (by omega) k (by omega), wrap_in (by omega) (by omega), hc, List.drop_eq_getElem_cons hlt]
    simp only [Option.bind_some, byF]
    have n1 := ih (i + 1) k acc (by omega) (by omega) (by omega) (by omega)
    have n2 := ih (i + 1) k (acc ++ [(i : Int)]) (by omega) (by omega) (by simp; omega) (by omega)
    cases hp : F[i].any (· == a) with
    | true => rw [if_pos rfl, if_pos (by omega), if_pos rfl, n2, List.append_assoc]
    | false => rw [if_neg (by simp), if_neg (by simp), n1]; rfl
def namesToB (F : List (List Int)) (L : List Bool) (R : List Int) (a : Int) : List Int × Bool := if G.goodHeapB F L R 12 = true ∧ 0 ≤ a ∧ a ≤ (F.length : Int) - 1 then (byF a F 0, true) else ([], false)
theorem spec_NamesTo_eq (F : List (List Int)) (L : List Bool) (R : List Int) (a : Int) (hb : BigH F L R) (k : Nat) (hk : 2097170 < k) :
    spec_NamesTo.f k F L R a = some ((namesToB F L R a).1, (namesToB F L R a).2) := by
  unfold spec_NamesTo.f namesToB
  rw [GoodHeap_eq F L R hb k (by omega)]; simp only [Option.bind_some]
  obtain ⟨k, rfl⟩ : ∃ m, k = m + 1 := ⟨k - 1, by omega⟩
  cases hg : G.goodHeapB F L R 12 with
  | false => simp [spec_NamesTo.j0]
  | true =>
    obtain ⟨q1, q2, q3, q4, _⟩ := good_parts hg
    rw [if_pos rfl, in_eq, wrap_in (by omega) (by omega)]
    simp only [Option.bind_some, spec_NamesTo.j0]
    by_cases h : 0 ≤ a ∧ a ≤ (F.length : Int) - 1
    · rw [decide_eq_true h, if_neg (by simp), if_pos ⟨trivial, h⟩]
      have := spec_NamesTo_loop a F q1 (fun f hf => (q4 f hf).1) F.length 0 k [] (by omega) (by omega) (by simp) (by omega)
      rw [show (0 : Int) = ((0 : Nat) : Int) from rfl, this]; simp
    · rw [decide_eq_false h, if_pos (by simp), if_neg (fun x => h x.2)]
theorem impl_within_eq (a b c : Int) : impl_within.f a b c = some (decide (b ≤ a ∧ a ≤ c)) := by
  unfold impl_within.f
  by_cases h : b ≤ a
  · rw [if_pos h]; simp [h]
  · rw [if_neg (show ¬ a ≥ b from h)]; simp [h]
theorem impl_NamesTo_eq (F : List (List Int)) (L : List Bool) (R : List Int) (a : Int) (k : Nat) (hk : 1000 < k) (hL : L.length ≤ 1048576) :
    impl_NamesTo.f k F L R a = some ((namesToB F L R a).1, (namesToB F L R a).2) := by
  unfold impl_NamesTo.f namesToB impl_isHeap.f
  simp only [Option.bind_some]
  obtain ⟨k, rfl⟩ : ∃ m, k = m + 1 := ⟨k - 1, by omega⟩
  cases hg : G.goodHeapB F L R 12 with
  | false => simp [impl_NamesTo.j0]
  | true =>
    obtain ⟨q1, q2, q3, q4, _⟩ := good_parts hg
    rw [if_pos rfl, impl_within_eq, wrap_in (by omega) (by omega)]
    simp only [Option.bind_some, impl_NamesTo.j0]
    by_cases h : 0 ≤ a ∧ a ≤ (F.length : Int) - 1
    · rw [decide_eq_true (by omega), if_neg (by simp), if_pos ⟨trivial, h⟩]
      have := impl_NamesTo_loop a F q1 (fun f hf => (q4 f hf).1) F.length 0 k [] (by omega) (by omega) (by simp) (by omega)
      rw [show (0 : Int) = ((0 : Nat) : Int) from rfl, this]; simp
    · rw [decide_eq_false (by omega), if_pos (by simp), if_neg (fun x => h x.2)]
theorem namesToB_len (F : List (List Int)) (L : List Bool) (R : List Int) (a : Int) : (namesToB F L R a).1.length ≤ 1048576 := by
  unfold namesToB
  split
  · next hg =>
    have h1 := byF_len a F 0
    have h2 := (good_parts hg.1).1
    simp only; omega
  · simp
theorem NamesTo_calls (A0 A1 A2 : Option Addr) (c0 c1 c2 : Nat) (F : List (List Int)) (L : List Bool) (R : List Int) (a : Int) (w : World) (hh : G.HeapAt w A0 A1 A2 c0 c1 c2 F L R) (hok : OkH F L R) :
    Calls Try.prog 3 #[.agg #[.slice A0 F.length c0, .slice A1 L.length c1, .slice A2 R.length c2], .int .i64 a] w fun e w' => e = .returned (.bool true) ∧ Below w.heap.size w w' := by
  obtain ⟨r, hr1, hb⟩ := szHeap_eq F L R hok 1048576 (by omega) (by omega) 2097180 (by omega)
  by_cases h : r < 0
  · exact NamesTo_small0 2097180 A0 A1 A2 c0 c1 c2 F L R a w hh r (Lib.hid hr1) h
  · obtain ⟨b0, b1⟩ := hb (by omega)
    have hgl := namesToB_len F L R a
    exact NamesTo_law 2097180 A0 A1 A2 c0 c1 c2 F L R a w hh r (Lib.hid hr1) (by omega) _ _ (Lib.hid (toHeap_eq F L R b1 2097180 (by omega)))
      (Lib.hid (spec_NamesTo_eq F L R a b1 2097180 (by omega))) (Lib.hid (impl_NamesTo_eq F L R a 2097180 (by omega) b1.l)) (Lib.hid (eqIntS_eq _ hgl 2097180 (by omega))) (Lib.hid (eqHeap_eq F L R b1 2097180 (by omega)))
      (Lib.hid (heldIntS_eq _ hgl 2097180 (by omega))) b1.f.1 b1.f.2 b1.l b1.r hgl

end Go.Proofs.Ytemgbakjlbdibaa.QB
