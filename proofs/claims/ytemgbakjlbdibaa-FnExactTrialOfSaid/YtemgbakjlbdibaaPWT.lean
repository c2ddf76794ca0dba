import Derived.Test.YtemgbakjlbdibaaPH
import Derived.Test.YtemgbakjlbdibaaLawW
namespace Go.Proofs.Ytemgbakjlbdibaa.QB
open Go.RowKit Go.Joins Go.ChangeShapes Go.WideShapes Go.Proofs.YtemgbakjlbdibaaW.PrintWords
set_option linter.unusedVariables false
/-- What has been marked stands as marked. -/
theorem heldIntS_eq (n : Nat) (hn : n ≤ 1048576) (k : Nat) (hk : n < k) : laws_heldIntS.f k (G.markI n 1) 1 = some (1 + (n : Int)) := by
  unfold laws_heldIntS.f
  have := loop_val (fun k i => laws_heldIntS.l0 k (G.markI n 1) (1 + (i : Int)) i) n 0 (some (1 + (n : Int))) ?_ ?_ k (by omega)
  · simpa using this
  · intro k i _ h
    simp only [laws_heldIntS.l0]
    have e : rd (G.markI n 1) (i : Int) = 1 + (i : Int) := by
      rw [rd_nat]; simp [G.markI, h]
    rw [if_pos (by rw [G.markI_length]; omega), if_pos (by omega), e, if_pos rfl, wrap_in (by omega) (by omega), wrap_in (by omega) (by omega)]
    rw [show 1 + (i : Int) + 1 = 1 + ((i + 1 : Nat) : Int) by omega, show (i : Int) + 1 = ((i + 1 : Nat) : Int) by omega]
  · intro k _
    simp only [laws_heldIntS.l0]
    rw [if_neg (by rw [G.markI_length]; omega)]
theorem trialB_len (F : List (List Int)) (L : List Bool) (R : List Int) (a : Int) : (G.trialB (outerB F R) (fun H => lisB H 0) F L R a).1.length ≤ 1048576 := by
  unfold G.trialB
  split
  · next hg =>
    obtain ⟨q1, q2, q3, q4, q5⟩ := good_parts hg.1
    have ok := good_ok hg.1
    simp only
    split
    · simp
    · have h1 := lisB_len (G.seenB F [a]) 0
      have hv := hg.2
      unfold G.liveB at hv
      simp only [Bool.and_eq_true, decide_eq_true_eq] at hv
      have ha : a < (F.length : Int) := by
        by_cases hk : a.toNat < L.length
        · omega
        · have h2 := hv.2
          rw [getD_neg (by omega)] at h2; cases h2
      have ok1 : G.ReachOk F [a] := ⟨ok.n, fun y hy => by simp at hy; omega, ok.rows⟩
      have hS := G.seenB_length ok1
      omega
  · simp
theorem TrialOf_calls (A0 A1 A2 : Option Addr) (c0 c1 c2 : Nat) (F : List (List Int)) (L : List Bool) (R : List Int) (a : Int) (w : World) (hh : G.HeapAt w A0 A1 A2 c0 c1 c2 F L R) (hok : OkH F L R) :
    Calls Try.prog 7 #[.agg #[.slice A0 F.length c0, .slice A1 L.length c1, .slice A2 R.length c2], .int .i64 a] w fun e w' => e = .returned (.bool true) ∧ Below w.heap.size w w' := by
  obtain ⟨r, hr1, hb⟩ := szHeap_eq F L R hok 1048576 (by omega) (by omega) 2097180 (by omega)
  by_cases h : r < 0
  · exact TrialOf_small0 2097180 A0 A1 A2 c0 c1 c2 F L R a w hh r (Lib.hid hr1) h
  · obtain ⟨b0, b1⟩ := hb (by omega)
    have hgl := trialB_len F L R a
    exact TrialOf_law 2097180 A0 A1 A2 c0 c1 c2 F L R a w hh r (Lib.hid hr1) (by omega) _ _ (Lib.hid (toHeap_eq F L R b1 2097180 (by omega)))
      (Lib.hid (spec_TrialOf_eq F L R a b1 2097180 (by omega))) (Lib.hid rfl) (Lib.hid (eqIntS_eq _ hgl 2097180 (by omega))) (Lib.hid (eqHeap_eq F L R b1 2097180 (by omega)))
      (Lib.hid (heldIntS_eq _ hgl 2097180 (by omega))) b1.f.1 b1.f.2 b1.l b1.r hgl

end Go.Proofs.Ytemgbakjlbdibaa.QB
