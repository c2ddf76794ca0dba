import Derived.Test.YtemgbakjlbdibaaPH
import Derived.Test.YtemgbakjlbdibaaLawW
namespace Go.Proofs.Ytemgbakjlbdibaa.QB
open Go.RowKit Go.Joins Go.ChangeShapes Go.WideShapes Go.Proofs.YtemgbakjlbdibaaW.PrintWords
set_option linter.unusedVariables false
theorem isRef_lt {L : List Bool} {x : Int} (h : G.isRefB L x = true) : x < (L.length : Int) := by
  unfold G.isRefB at h
  simp only [Bool.or_eq_true, beq_iff_eq, Bool.and_eq_true, decide_eq_true_eq] at h
  rcases h with h | ⟨h0, h1⟩
  · omega
  · by_cases hk : x.toNat < L.length
    · omega
    · rw [getD_neg (by omega)] at h1; cases h1
theorem good_parts {F : List (List Int)} {L : List Bool} {R : List Int} (h : G.goodHeapB F L R 12 = true) :
    F.length ≤ 12 ∧ L.length = F.length ∧ R.length ≤ 4 ∧ (∀ f ∈ F, f.length ≤ 3 ∧ ∀ x ∈ f, G.isRefB L x = true) ∧ ∀ x ∈ R, G.isRefB L x = true := by
  unfold G.goodHeapB at h
  simp only [Bool.and_eq_true, decide_eq_true_eq, List.all_eq_true, List.mem_range] at h
  obtain ⟨⟨⟨⟨h1, h2⟩, h3⟩, h4⟩, h5⟩ := h
  refine ⟨by omega, h2, h3, fun f hf => ?_, h5⟩
  obtain ⟨k, hk, rfl⟩ := List.getElem_of_mem hf
  have := h4 k hk
  simp only [List.getD_eq_getElem?_getD, List.getElem?_eq_getElem hk, Option.getD_some] at this
  exact ⟨this.1.1, this.2⟩
theorem good_ok {F : List (List Int)} {L : List Bool} {R : List Int} (h : G.goodHeapB F L R 12 = true) : G.ReachOk F R := by
  obtain ⟨h1, h2, h3, h4, h5⟩ := good_parts h
  exact ⟨by omega, fun x hx => by rw [← h2]; exact isRef_lt (h5 x hx), fun f hf => ⟨(h4 f hf).1, fun x hx => by rw [← h2]; exact isRef_lt ((h4 f hf).2 x hx)⟩⟩
theorem good_okFrom {F : List (List Int)} {L : List Bool} {R : List Int} (h : G.goodHeapB F L R 12 = true) : G.okFrom F R = true :=
  G.okFrom_iff.2 ⟨good_ok h, by have := (good_parts h).2.2.1; omega⟩
/-- What has been marked stands as marked. -/
theorem heldIntS_eq (n : Nat) (hn : n ≤ 1048576) (k : Nat) (hk : n < k) : laws_heldIntS.f k (G.markI n 1) 1 = some (1 + (n : Int)) := by
  unfold laws_heldIntS.f
  have := loop_val (fun k i => laws_heldIntS.l0 k (G.markI n 1) (1 + (i : Int)) i) n 0 (some (1 + (n : Int))) ?_ ?_ k (by omega)
  · simpa using this
  · intro k i _ h
    simp only [laws_heldIntS.l0]
    have e : rd (G.markI n 1) (i : Int) = 1 + (i : Int) := by
      rw [rd_nat]; simp [G.markI, h]
    rw [if_pos (by rw [G.markI_length]; omega), if_pos (by omega), e, if_pos rfl, wrap_in (by omega) (by omega), wrap_in (by omega) (by omega)]
    rw [show 1 + (i : Int) + 1 = 1 + ((i + 1 : Nat) : Int) by omega, show (i : Int) + 1 = ((i + 1 : Nat) : Int) by omega]
  · intro k _
    simp only [laws_heldIntS.l0]
    rw [if_neg (by rw [G.markI_length]; omega)]
theorem strike_loop (S : List Bool) (l : List Int) (hin : ∀ x ∈ l, x < (S.length : Int)) (hl : l.length ≤ 10) (d : Nat) : ∀ (i k : Nat) (acc : List Int), i ≤ l.length → l.length - i = d → acc.length ≤ i → d < k →
    spec_StrikeOut.l0 k S acc l l.length i = some (acc ++ (l.drop i).map (G.strikeX S), true) := by
  induction d with
  | zero =>
    intro i k acc hi hd ha hk
    obtain ⟨k, rfl⟩ : ∃ m, k = m + 1 := ⟨k - 1, by omega⟩
    obtain rfl : i = l.length := by omega
    simp only [spec_StrikeOut.l0]
    rw [if_neg (by omega), List.drop_length]; simp
  | succ d ih =>
    intro i k acc hi hd ha hk
    obtain ⟨k, rfl⟩ : ∃ m, k = m + 1 := ⟨k - 1, by omega⟩
    have hlt : i < l.length := by omega
    have hc : ((i : Int) + 1) = ((i + 1 : Nat) : Int) := by omega
    have hx := hin l[i] (List.getElem_mem hlt)
    have ha2 : acc.length < 17592186044416 := by omega
    have n1 := fun y => ih (i + 1) k (acc ++ [y]) (by omega) (by omega) (by simp; omega) (by omega)
    simp only [spec_StrikeOut.l0]
    rw [if_pos (by omega), if_pos (by omega), if_pos (by omega), rd_at l i hlt, wrap_in (by omega) (by omega), hc, List.drop_eq_getElem_cons hlt, List.map_cons]
    unfold G.strikeX at n1 ⊢
    by_cases h0 : 0 ≤ l[i]
    · have e : rdOf false S l[i] = S.getD l[i].toNat false := by unfold rdOf; simp
      rw [if_pos (show l[i] ≥ 0 from h0), if_pos h0, if_pos hx, e]
      cases hs : S.getD l[i].toNat false with
      | true => rw [if_pos rfl, if_pos ha2, n1, if_neg (fun h => absurd h.2 (by simp)), List.append_assoc]; rfl
      | false => rw [if_neg (by simp), if_pos ha2, n1, if_pos ⟨h0, rfl⟩, List.append_assoc]; rfl
    · rw [if_neg (show ¬ l[i] ≥ 0 from h0), if_pos ha2, n1, if_neg (fun h => h0 h.1), List.append_assoc]; rfl
theorem any_all (L : List Bool) (l : List Int) : (l.any fun x => !G.isRefB L x) = !(l.all (G.isRefB L)) := by rw [List.not_all_eq_any_not]
theorem spec_StrikeOut_eq (F : List (List Int)) (L : List Bool) (R : List Int) (l : List Int) (hb : BigH F L R) (hn : l.length ≤ 1048576) (k : Nat) (hk : 2097170 < k) :
    spec_StrikeOut.f k F L R l = some ((G.strikeB F L R l).1, (G.strikeB F L R l).2) := by
  unfold spec_StrikeOut.f G.strikeB
  rw [GoodHeap_eq F L R hb k (by omega)]; simp only [Option.bind_some]
  obtain ⟨k, rfl⟩ : ∃ m, k = m + 1 := ⟨k - 1, by omega⟩
  cases hg : G.goodHeapB F L R 12 with
  | false => simp [spec_StrikeOut.j0]
  | true =>
    obtain ⟨q1, q2, q3, q4, q5⟩ := good_parts hg
    have ok := good_ok hg
    rw [if_pos rfl]
    by_cases h10 : (l.length : Int) > 10
    · rw [if_pos h10, if_neg (fun h => by have := h.2.1; omega)]
      simp [spec_StrikeOut.j0]
    · rw [if_neg h10, Names_eq L l hb.l hn (k + 1) (by omega)]
      simp only [Option.bind_some, spec_StrikeOut.j0]
      rw [any_all]
      cases hall : l.all (G.isRefB L) with
      | false => rw [if_pos (by simp), if_neg (fun h => absurd h.2.2 (by simp))]
      | true =>
        rw [if_neg (by simp), if_pos ⟨trivial, by omega, by simp⟩]
        unfold spec_l5Reached.f spec_l5From.f
        rw [if_pos (good_okFrom hg)]
        simp only [Option.bind_some]
        have := strike_loop (G.seenB F R) l (fun x hx => by rw [G.seenB_length ok, ← q2]; exact isRef_lt (List.all_eq_true.1 hall x hx)) (by omega) l.length 0 k [] (by omega) (by omega) (by simp) (by omega)
        rw [show (0 : Int) = ((0 : Nat) : Int) from rfl, this]; simp
theorem strikeB_len (F : List (List Int)) (L : List Bool) (R : List Int) (l : List Int) : (G.strikeB F L R l).1.length ≤ 1048576 := by
  unfold G.strikeB
  split
  · next hg => simp only [List.length_map]; have := hg.2.1; omega
  · simp
theorem StrikeOut_calls (A0 A1 A2 : Option Addr) (c0 c1 c2 : Nat) (F : List (List Int)) (L : List Bool) (R : List Int) (AP : Option Addr) (cP : Nat) (l : List Int) (w : World) (hh : G.HeapAt w A0 A1 A2 c0 c1 c2 F L R) (hr : Kd.C (Kd.int .i64) w AP l.length l) (hc : l.length ≤ cP) (hok : OkH F L R) (hl : l.length ≤ 9223372036854775807) :
    Calls Try.prog 5 #[.agg #[.slice A0 F.length c0, .slice A1 L.length c1, .slice A2 R.length c2], .slice AP l.length cP] w fun e w' => e = .returned (.bool true) ∧ Below w.heap.size w w' := by
  by_cases hq : (l.length : Int) > 1048576
  · exact StrikeOut_smallA 2097180 A0 A1 A2 c0 c1 c2 F L R AP cP l w hh hr hc hq
  obtain ⟨r, hr1, hb⟩ := szHeap_eq F L R hok 1048576 (by omega) (by omega) 2097180 (by omega)
  by_cases h : r < 0
  · exact StrikeOut_small0 2097180 A0 A1 A2 c0 c1 c2 F L R AP cP l w hh hr hc hq r (Lib.hid hr1) h
  · obtain ⟨b0, b1⟩ := hb (by omega)
    have hgl := strikeB_len F L R l
    have him : impl_StrikeOut.f F L R l = some ((G.strikeB F L R l).1, (G.strikeB F L R l).2) := by unfold impl_StrikeOut.f; rw [if_pos (by omega)]
    exact StrikeOut_law 2097180 A0 A1 A2 c0 c1 c2 F L R AP cP l w hh hr hc hq r (Lib.hid hr1) (by omega) _ _ (Lib.hid (toHeap_eq F L R b1 2097180 (by omega))) (Lib.hid (toIntS_eq l (by omega) 2097180 (by omega)))
      (Lib.hid (spec_StrikeOut_eq F L R l b1 (by omega) 2097180 (by omega))) (Lib.hid him) (Lib.hid (eqIntS_eq _ hgl 2097180 (by omega))) (Lib.hid (eqHeap_eq F L R b1 2097180 (by omega)))
      (Lib.hid (eqIntS_eq l (by omega) 2097180 (by omega))) (by omega) (Lib.hid (heldIntS_eq _ hgl 2097180 (by omega))) b1.f.1 b1.f.2 b1.l b1.r hgl

end Go.Proofs.Ytemgbakjlbdibaa.QB
